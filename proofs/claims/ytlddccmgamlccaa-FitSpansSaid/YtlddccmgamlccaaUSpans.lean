/- A part of the proofs over usage and fit (USpans): contracts of the program's functions and plain laws of levels. Conditions: those that each theorem states. -/
import Derived.Test.YtlddccmgamlccaaUF
set_option linter.unusedVariables false
set_option linter.unusedSimpArgs false
/- The plain law of FitSpans. -/
namespace Go.Proofs.Ytlddccmgamlccaa.Us
open Go Go.RowKit Go.Proofs.YtlddccmgamlccaaW.PrintWords

/-- is a time in one of some spans? -/
def inS (S : List (Int × Int)) (T : Int) : Bool := S.any fun x => decide (x.1 ≤ T) && decide (T < x.2)
theorem inS_snoc (S : List (Int × Int)) (x : Int × Int) (T : Int) : inS (S ++ [x]) T = (inS S T || (decide (x.1 ≤ T) && decide (T < x.2))) := by unfold inS; rw [List.any_append]; simp
theorem inS_iff (S : List (Int × Int)) (T : Int) : inS S T = true ↔ ∃ x ∈ S, x.1 ≤ T ∧ T < x.2 := by
  unfold inS
  rw [List.any_eq_true]
  constructor
  · rintro ⟨x, hx, h⟩
    rw [Bool.and_eq_true, decide_eq_true_eq, decide_eq_true_eq] at h
    exact ⟨x, hx, h⟩
  · rintro ⟨x, hx, h⟩
    exact ⟨x, hx, by rw [Bool.and_eq_true, decide_eq_true_eq, decide_eq_true_eq]; exact h⟩
theorem holds_calls (a b t : Int) (ha : 0 ≤ a ∧ a ≤ 1099511627776) (hb : 0 ≤ b ∧ b ≤ 1099511627776) (ht : 0 ≤ t ∧ t ≤ 1099511627776) (w : World) :
    Calls Try.prog 26 #[.agg #[.int .i64 a, .int .i64 b], .int .i64 t] w fun e w' => e = .returned (.bool (decide (a ≤ t) && decide (t < b))) ∧ Below w.heap.size w w' := by
  refine PJoin.tick_Span_Holds.calls a b t _ w ?_
  have hc : ∀ t, PJoin.tick_Clamp.f t = some (clT t) := fun t => rfl
  unfold PJoin.tick_Span_Holds.f PJoin.tick_Span_clean.f
  rw [hc, hc]
  simp only [Option.bind_some]
  rw [hc]
  simp only [Option.bind_some]
  rw [clT_id ha, clT_id hb, clT_id ht]
  split
  · rename_i h; rw [decide_eq_true h, Bool.true_and]
  · rename_i h; rw [decide_eq_false h, Bool.false_and]
/-- .. of a span that may be any -/
theorem holds_any (a b t : Int) (ht : 0 ≤ t ∧ t ≤ 1099511627776) (w : World) :
    Calls Try.prog 26 #[.agg #[.int .i64 a, .int .i64 b], .int .i64 t] w fun e w' => e = .returned (.bool (decide (clT a ≤ t) && decide (t < clT b))) ∧ Below w.heap.size w w' := by
  refine PJoin.tick_Span_Holds.calls a b t _ w ?_
  have hc : ∀ t, PJoin.tick_Clamp.f t = some (clT t) := fun t => rfl
  unfold PJoin.tick_Span_Holds.f PJoin.tick_Span_clean.f
  rw [hc, hc]
  simp only [Option.bind_some]
  rw [hc]
  simp only [Option.bind_some]
  rw [clT_id ht]
  split
  · rename_i h; rw [decide_eq_true h, Bool.true_and]
  · rename_i h; rw [decide_eq_false h, Bool.false_and]
theorem right_calls (a b : Int) (ha : 0 ≤ a ∧ a ≤ 1099511627776) (hb : 0 ≤ b ∧ b ≤ 1099511627776) (hab : a ≤ b) (w : World) :
    Calls Try.prog 27 #[.agg #[.int .i64 a, .int .i64 b]] w fun e w' => e = .returned (.bool true) ∧ Below w.heap.size w w' := by
  refine PJoin.tick_Span_Right.calls a b _ w ?_
  have hc : ∀ t, PJoin.tick_Clamp.f t = some (clT t) := fun t => rfl
  unfold PJoin.tick_Span_Right.f PJoin.tick_Span_clean.f
  rw [hc, hc]
  simp only [Option.bind_some]
  rw [clT_id ha, clT_id hb]
  simp [hab]
theorem SpRow.below {w w1 : World} {B : Nat} {A : Option Addr} {xs : List PJoin.S25} (h : SpRow w B A xs) (hb : Below w.heap.size w w1) : SpRow w1 B A xs := fun j hj => by
  obtain ⟨g, e1, e2, cs, e3, e4, e5⟩ := h j hj
  exact ⟨g, e1, e2, cs, blk_below e3 hb, e4, e5⟩
theorem SpRow.at_ {w : World} {B : Nat} {A : Option Addr} {S : List (Int × Int)} (h : SpRow w B A (S.map toS)) (j : Nat) (hj : j < S.length) :
    ∃ g, A = some ⟨g, 0, none⟩ ∧ w.cell? ⟨g, j * 2, none⟩ = some (.int .i64 S[j].1) ∧ w.cell? ⟨g, j * 2 + 1, none⟩ = some (.int .i64 S[j].2) := by
  obtain ⟨g, e1, e2, cs, e3, e4, e5⟩ := h j (by simpa using hj)
  rw [List.getElem_map] at e4 e5
  exact ⟨g, e1, (blk_cell e3 _).trans e4, (blk_cell e3 _).trans e5⟩
theorem starts_len (l : List (Int × Int)) (h : Lev l) (t m v : Int) : (startsR l t m v).length ≤ l.length := by
  have h1 : (startsR l t m v).length ≤ (wideR l t v).length := List.length_filterMap_le _ _
  have h2 : (wideR l t v).length = (PJoin.joined (wideN l t v l.length)).length := by unfold wideR PJoin.joinR; rw [List.length_map]
  have h3 := PJoin.joined_length (wideN l t v l.length)
  have h4 := wideN_len l t v l.length
  omega
theorem spans_all (l : List (Int × Int)) (h : Lev l) (hn : l.length ≤ 200) (t m v : Int) : spansL l t m v = startsR l t m v := by
  have := starts_len l h t m v
  exact List.take_of_length_le (by omega)
theorem spans_in {l : List (Int × Int)} (h : Lev l) (t m v T : Int) (hm : 1 ≤ m) : inS (startsR l t m v) T = true ↔ clT t ≤ T ∧ Good l m v T := by
  rw [inS_iff, starts_good h]
  rw [show max m 1 = m by omega]
theorem spans_from {l : List (Int × Int)} (h : Lev l) (t m v : Int) {x : Int × Int} (hx : x ∈ startsR l t m v) : clT t ≤ x.1 :=
  ((starts_good h t m v x.1).1 ⟨x, hx, Int.le_refl _, ((starts_fine l t m v).2 x hx).1⟩).1
theorem takeWhile_mem {α : Type} (p : α → Bool) : ∀ (l : List α) (x : α), x ∈ l.takeWhile p → p x = true
  | [], x, h => by simp at h
  | y :: r, x, h => by
    rw [List.takeWhile_cons] at h
    split at h
    · rename_i hy
      rcases List.mem_cons.1 h with rfl | h
      · exact hy
      · exact takeWhile_mem p r x h
    · simp at h
/-- what the last one is -/
theorem latest_spec {l : List (Int × Int)} (h : Lev l) (ta tb m v : Int) (hm : 1 ≤ m) (lv : Int) (ok : Bool) (he : latestL l ta tb m v = (lv, ok)) :
    (ok = false → lv = 0) ∧ (ok = true → (0 ≤ lv ∧ lv < 1099511627776) ∧ (clT ta ≤ lv ∧ lv < clT tb) ∧ Good l m v lv ∧ (lv + 1 < 1099511627776 → lv + 1 < clT tb → ¬ Good l m v (lv + 1))) := by
  unfold latestL latO at he
  obtain ⟨hp, hx⟩ := starts_fine l ta m v
  have hg := starts_good h ta m v
  rw [show max m 1 = m by omega] at hg
  cases hq : ((startsR l ta m v).takeWhile fun x => !latE ta tb x).getLast? with
  | none =>
    rw [hq] at he
    dsimp only at he
    obtain ⟨rfl, rfl⟩ := Prod.mk.inj he
    exact ⟨fun _ => rfl, fun hh => (by cases hh)⟩
  | some x =>
    rw [hq] at he
    dsimp only at he
    obtain ⟨rfl, rfl⟩ := Prod.mk.inj he
    refine ⟨fun hh => (by cases hh), fun _ => ?_⟩
    have hxm : x ∈ (startsR l ta m v).takeWhile fun x => !latE ta tb x := List.mem_of_getLast? hq
    have hxs : x ∈ startsR l ta m v := (List.takeWhile_prefix _).subset hxm
    have hne : latE ta tb x = false := by
      have := takeWhile_mem _ _ _ hxm
      simpa using this
    obtain ⟨h1, h2, h3⟩ := hx x hxs
    have ra := clT_range ta
    have rb := clT_range tb
    unfold latE at hne
    have hne' := of_decide_eq_false hne
    have hcut : (cutP x.1 x.2 ta tb).1 = mx x.1 (clT ta) ∧ (cutP x.1 x.2 ta tb).2 = mn x.2 (clT tb) ∧ mx x.1 (clT ta) < mn x.2 (clT tb) := by
      unfold cutP at hne' ⊢
      rw [clT_id ⟨h2, by omega⟩, clT_id ⟨by omega, h3⟩] at hne' ⊢
      by_cases hc : mx x.1 (clT ta) ≥ mn x.2 (clT tb)
      · rw [if_pos hc] at hne'; exact absurd (Int.le_refl _) hne'
      · rw [if_neg hc]; exact ⟨rfl, rfl, by omega⟩
    obtain ⟨c1, c2, c3⟩ := hcut
    rw [c2]
    have hxl := spans_from h ta m v hxs
    have hmxx : mx x.1 (clT ta) = x.1 := by unfold mx; split <;> omega
    rw [hmxx] at c3
    have hlt : mn x.2 (clT tb) ≤ x.2 ∧ mn x.2 (clT tb) ≤ clT tb ∧ (mn x.2 (clT tb) = x.2 ∨ mn x.2 (clT tb) = clT tb) := by unfold mn; split <;> omega
    obtain ⟨l1, l2, l3⟩ := hlt
    refine ⟨⟨by omega, by omega⟩, ⟨by omega, by omega⟩, ((hg _).1 ⟨x, hxs, by omega, by omega⟩).2, fun h5 h6 hgood => ?_⟩
    have h7 : mn x.2 (clT tb) = x.2 := by omega
    rw [h7] at hgood
    obtain ⟨y, hy, h8, h9⟩ := (hg (x.2 - 1 + 1)).2 ⟨by omega, hgood⟩
    obtain ⟨i, hi, rfl⟩ := List.getElem_of_mem hxs
    obtain ⟨j, hj, rfl⟩ := List.getElem_of_mem hy
    rcases Nat.lt_trichotomy i j with e | e | e
    · have := List.pairwise_iff_getElem.1 hp i j hi hj e; omega
    · subst e; omega
    · have := List.pairwise_iff_getElem.1 hp j i hj hi e; omega
end Go.Proofs.Ytlddccmgamlccaa.Us

set_option linter.unusedVariables false
set_option linter.unusedSimpArgs false
namespace Go.Proofs.Ytlddccmgamlccaa.Us
open Go Go.Proofs Go.RowKit Go.Lib Go.Proofs.YtlddccmgamlccaaW.PrintWords Go.Proofs.YtlddccmgamlccaaW.PrintLast Go.Proofs.YtlddccmgamlccaaW.PrintMore

def spansRa.T11 : Bool × List (List Nat × List Nat) := (true, [([], []), ([], []), ([0, 1], [0, 1]), ([2], [2]), ([3], [3]), ([4], [4]), ([5, 4], [5]), ([6], [6]), ([6], [6]), ([7, 8, 6], [6, 7, 8]), ([9, 6], [6, 9]), ([10, 6, 6], [6, 10]), ([6, 11], [6, 11]), ([12, 11], [12]), ([13], [13]), ([14, 13], [13, 14]), ([15, 13, 13], [13, 15]), ([16], [16]), ([16], [16]), ([17, 18, 16], [16, 17, 18]), ([19, 16], [16, 19]), ([20, 16], [16, 20]), ([16], [16]), ([16], [16]), ([23, 16], [16, 23]), ([22, 24, 16], [16, 22, 24]), ([25, 16], [16, 25]), ([26, 16], [16, 26]), ([21, 27, 16], [16, 21, 27]), ([16, 28, 13], [13, 16, 28]), ([13, 29], [13, 29]), ([30, 16], [30]), ([31], [31]), ([31], [31]), ([32, 33, 31], [31, 32, 33]), ([34, 31], [31, 34]), ([35, 31], [31, 35]), ([31], [31]), ([36, 37, 31], [31, 36, 37]), ([31, 38], [31, 38])])
def spansRa.B11 : List Nat := [0, 0, 3, 7, 15, 31, 63, 127, 127, 511, 1023, 2047, 4095, 8191, 16383, 32767, 65535, 131071, 131071, 524287, 1048575, 2097151, 131071, 131071, 8519679, 29491199, 63045631, 130154495, 268435455, 536870911, 1073741823, 2147483647, 4294967295, 4294967295, 17179869183, 34359738367, 68719476735, 4294967295, 274877906943, 549755813887]
theorem spansRa.tab11 : rtab .any (opsOf Try.f6 11) = spansRa.T11 := by kernel_rfl
theorem spansRa.bits11 : waitsOk spansRa.T11.2 spansRa.B11 = true := by kernel_rfl
def spansRb.T13 : Bool × List (List Nat × List Nat) := (true, [([], []), ([0], [0]), ([1], [1]), ([2], [2]), ([2], [2]), ([2], [2]), ([4, 5, 2], [2, 4, 5]), ([6, 2, 2], [2, 6]), ([7], [7]), ([7], [7]), ([7], [7]), ([9, 10, 7, 7], [7, 9, 10]), ([7], [7]), ([12, 7], [7, 12]), ([8, 11, 13, 11, 7], [7, 8, 11, 13]), ([7, 14, 2], [2, 7, 14]), ([3, 15, 2], [2, 3, 15]), ([2, 16], [2, 16])])
def spansRb.B13 : List Nat := [0, 1, 3, 7, 7, 7, 55, 119, 247, 247, 247, 1783, 247, 4343, 16375, 32759, 65535, 131071]
theorem spansRb.tab13 : rtab .any (opsOf Try.f6 13) = spansRb.T13 := by kernel_rfl
theorem spansRb.bits13 : waitsOk spansRb.T13.2 spansRb.B13 = true := by kernel_rfl
def spansRc.T16 : Bool × List (List Nat × List Nat) := (true, [([], []), ([0], [0]), ([1], [1]), ([2, 1], [1, 2]), ([1], [1]), ([3, 4, 1, 1], [1, 3, 4]), ([5, 1], [1, 5]), ([6, 5, 1], [1, 6]), ([7], [7]), ([7], [7]), ([7], [7]), ([9, 10, 7, 7], [7, 9, 10]), ([7], [7]), ([12, 7], [7, 12]), ([8, 11, 13, 11, 7], [7, 8, 11, 13]), ([14, 7], [7, 14]), ([7, 15, 1], [1, 7, 15]), ([1, 16], [1, 16])])
def spansRc.B16 : List Nat := [0, 1, 3, 7, 3, 31, 63, 127, 255, 255, 255, 1791, 255, 4351, 16383, 32767, 65535, 131071]
theorem spansRc.tab16 : rtab .any (opsOf Try.f6 16) = spansRc.T16 := by kernel_rfl
theorem spansRc.bits16 : waitsOk spansRc.T16.2 spansRc.B16 = true := by kernel_rfl
def spansRd.T18 : Bool × List (List Nat × List Nat) := (true, [([], []), ([0], [0]), ([1], [1]), ([2, 1], [1, 2]), ([3, 1], [1, 3]), ([1, 4], [1, 4]), ([5, 1], [5]), ([6], [6]), ([7, 6], [6, 7]), ([6], [6]), ([9, 6], [6, 9]), ([8, 10, 6, 6], [6, 8, 10]), ([6, 11], [6, 11]), ([12, 11], [12]), ([13], [13]), ([13], [13]), ([15, 13], [13, 15]), ([13], [13]), ([16, 17, 13, 13], [13, 16, 17]), ([13], [13]), ([19, 13], [13, 19]), ([14, 18, 20, 18, 13], [13, 14, 18, 20]), ([13, 21], [13, 21])])
def spansRd.B18 : List Nat := [0, 1, 3, 7, 15, 31, 63, 127, 255, 127, 639, 2047, 4095, 8191, 16383, 16383, 49151, 16383, 245759, 16383, 540671, 2097151, 4194303]
theorem spansRd.tab18 : rtab .any (opsOf Try.f6 18) = spansRd.T18 := by kernel_rfl
theorem spansRd.bits18 : waitsOk spansRd.T18.2 spansRd.B18 = true := by kernel_rfl
set_option maxRecDepth 100000 in
set_option maxHeartbeats 64000000 in
theorem fitSpans_calls (A : Option Addr) (c : Nat) (xs : List ActS) (fr many W ta tb tt : Int) (w : World) (hr : Kd.C kAct w A xs.length xs) (hc : xs.length ≤ c) :
    Calls Try.prog 6 #[.slice A xs.length c, .agg #[.int .i64 fr, .int .i64 many, .int .i64 W, .int .i64 ta, .int .i64 tb], .int .i64 tt] w fun e w' => e = .returned (.bool true) ∧ Below w.heap.size w w' := by
  have hbx := (Below.refl w.heap.size w).alloc (Nat.le_refl _) (.cells #[.int .i64 fr, .int .i64 many, .int .i64 W, .int .i64 ta, .int .i64 tb] 27)
  have n0 := blk_new w (.cells #[.int .i64 fr, .int .i64 many, .int .i64 W, .int .i64 ta, .int .i64 tb] 27)
  have HB0 := Aside0.mk hbx
  have HA0 := Aside0.mk n0
  have HAX := Aside0.mk (Kd.C_below hr hbx)
  obtain ⟨hL, hlen⟩ := play_lev 4 (xs.take 10)
  have hxl : (xs.take 10).length ≤ 10 := by rw [List.length_take]; omega
  obtain ⟨L, hLe⟩ : ∃ L, playL 4 (xs.take 10) = L := ⟨_, rfl⟩
  rw [hLe] at hL hlen
  have HLE := Aside0.mk hLe
  have hmk := and_mask many 255 (by omega)
  obtain ⟨M0, hM0⟩ : ∃ M0, bits .and .i64 many ((255 : Nat) : Int) = M0 := ⟨_, rfl⟩
  rw [hM0] at hmk
  have hM0' : bits .and .i64 many 255 = M0 := hM0
  obtain ⟨M, hM⟩ : ∃ M, 1 + M0 = M := ⟨_, rfl⟩
  have hw1 : IntKind.i64.wrap (1 + M0) = M := by rw [IntKind.wrap_i64]; omega
  have hMr : 1 ≤ M ∧ M ≤ 1099511627776 := by omega
  have hcf := clamp_calls fr
  have hct := clamp_calls tt
  have hFr := clT_range fr
  have hTr := clT_range tt
  obtain ⟨F, hF⟩ : ∃ F, clT fr = F := ⟨_, rfl⟩
  obtain ⟨T, hT⟩ : ∃ T, clT tt = T := ⟨_, rfl⟩
  rw [hF] at hcf hFr
  rw [hT] at hct hTr
  have hsp := fun w' fv hf => spans_calls fv L F M W w' hf hL
  have hall := spans_all L hL (by omega) F M W
  have hin := fun τ => spans_in hL F M W τ hMr.1
  have hfine := starts_fine L F M W
  have hfrom := fun x hx => spans_from hL F M W (x := x) hx
  have hsl := starts_len L hL F M W
  rw [hall] at hsp
  rw [clT_id hFr] at hin hfrom
  obtain ⟨S, hS⟩ : ∃ S, startsR L F M W = S := ⟨_, rfl⟩
  rw [hS] at hsp hin hfine hfrom hsl
  have hla := fun w' fv hf => latest_calls fv L ta tb M W w' hf hL
  obtain ⟨lo, hlo⟩ : ∃ lo, latestL L ta tb M W = lo := ⟨_, rfl⟩
  obtain ⟨lv, ok⟩ := lo
  have hls := latest_spec hL ta tb M W hMr.1 lv ok hlo
  rw [hlo] at hla
  have HLs := Aside0.mk hls
  have HLat := Aside0.mk hla
  have HCf := Aside0.mk hcf
  have HCt := Aside0.mk hct
  have HSp := Aside0.mk hsp
  have HIn := Aside0.mk hin
  have HFi := Aside0.mk hfine
  have HFr := Aside0.mk hfrom
  have HL := Aside0.mk hL
  have HM := Aside0.mk hMr
  clear hls hla hlo hcf hct hsp hin hfine hfrom hall hS hF hT hr hbx n0 hLe hM0 hM hmk hL hMr
  go_enter Try.func6, Try.ntmps6
  go_wp2_with (first
    | (go_at_call 7; refine (play_calls 4 A c 10 xs _ HAX.out hc (by omega)).mono ?_; rintro ev w1 ⟨p, q, cc, v, rfl, S1, R1, hp, hq, hb1⟩; rw [HLE.out] at S1; obtain ⟨Av, cv, rfl⟩ := Kd.R_slice R1; have h8 := (Below.refl w1.heap.size w1).alloc (Nat.le_refl _) (.cells #[.int .i64 4, .slice Av (playR 4 (xs.take 10)).length cv] 31 (0, 0)); have HS1 := Aside0.mk (S1.below h8); have nA1 := blk_below HA0.out (hb1.trans (h8.mono hb1.size)); have gA1_0 : (w1.alloc (.cells #[.int .i64 4, .slice Av (playR 4 (xs.take 10)).length cv] 31 (0, 0))).cell? ⟨w.heap.size, 0, none⟩ = some (.int .i64 fr) := (blk_cell nA1 0).trans rfl; have gA1_1 : (w1.alloc (.cells #[.int .i64 4, .slice Av (playR 4 (xs.take 10)).length cv] 31 (0, 0))).cell? ⟨w.heap.size, 1, none⟩ = some (.int .i64 many) := (blk_cell nA1 1).trans rfl; have HA1 := Aside0.mk nA1; have HB1 := Aside0.mk (below_step HB0.out (hb1.trans (h8.mono hb1.size))); clear nA1 S1 R1 hb1 h8)
    | (go_at_call 8; first | (with_reducible refine (HCt.out _).mono ?_; rintro ev w2 ⟨rfl, hb2⟩; have gA2_0 : w2.cell? ⟨w.heap.size, 0, none⟩ = some (.int .i64 fr) := (blk_cell (blk_below HA1.out hb2) 0).trans rfl; have HS2 := Aside0.mk (HS1.out.below hb2); have nA2 := blk_below HA1.out hb2; have HA2 := Aside0.mk nA2; have gW2 : w2.cell? ⟨w.heap.size, 2, none⟩ = some (.int .i64 W) := (blk_cell nA2 2).trans rfl; have gT2 : w2.cell? ⟨w.heap.size, 3, none⟩ = some (.int .i64 ta) := (blk_cell nA2 3).trans rfl; have gU2 : w2.cell? ⟨w.heap.size, 4, none⟩ = some (.int .i64 tb) := (blk_cell nA2 4).trans rfl; have HB2 := Aside0.mk (below_step HB1.out hb2); clear nA2 hb2; clear HCt) | (with_reducible refine (HCf.out _).mono ?_; rintro ev w3 ⟨rfl, hb3⟩; have HS3 := Aside0.mk (HS2.out.below hb3); have nA3 := blk_below HA2.out hb3; have HA3 := Aside0.mk nA3; have gW3 : w3.cell? ⟨w.heap.size, 2, none⟩ = some (.int .i64 W) := (blk_cell nA3 2).trans rfl; have gT3 : w3.cell? ⟨w.heap.size, 3, none⟩ = some (.int .i64 ta) := (blk_cell nA3 3).trans rfl; have gU3 : w3.cell? ⟨w.heap.size, 4, none⟩ = some (.int .i64 tb) := (blk_cell nA3 4).trans rfl; have HB3 := Aside0.mk (below_step HB2.out hb3); clear nA3 hb3))
    | (go_at_call 18; refine (HSp.out _ _ (FreeIs.made HS3.out)).mono ?_; rintro ev w4 ⟨v0, rfl, R4, hb4⟩; obtain ⟨As, cs4, rfl⟩ := Kd.R_slice R4; have HRow0 := Aside0.mk (spRow_of R4); clear R4; have HS4 := Aside0.mk (HS3.out.below hb4); have nA4 := blk_below HA3.out hb4; have HA4 := Aside0.mk nA4; have gW4 : w4.cell? ⟨w.heap.size, 2, none⟩ = some (.int .i64 W) := (blk_cell nA4 2).trans rfl; have gT4 : w4.cell? ⟨w.heap.size, 3, none⟩ = some (.int .i64 ta) := (blk_cell nA4 3).trans rfl; have gU4 : w4.cell? ⟨w.heap.size, 4, none⟩ = some (.int .i64 tb) := (blk_cell nA4 4).trans rfl; have HB4 := Aside0.mk (below_step HB3.out hb4); clear nA4 hb4))
  obtain ⟨B0, hB0⟩ : ∃ B0, w3.heap.size = B0 := ⟨_, rfl⟩
  have HRow : Aside0 (SpRow w4 B0 As (S.map toS)) := ⟨by rw [← hB0]; exact HRow0.out⟩
  clear HRow0 hB0
  go_loopw [11, 13] (fun v11 v13 wr => ∃ i : Nat, v13 = .int .i64 (i : Int) ∧ v11 = .bool (inS (S.take i) T) ∧ i ≤ S.length ∧ SpRow wr B0 As (S.map toS) ∧ StepsIs wr p q cc L ∧ wr.heap[w.heap.size]? = some (.cells #[.int .i64 fr, .int .i64 many, .int .i64 W, .int .i64 ta, .int .i64 tb] 27 (0, 0)) ∧ Below w.heap.size w wr)
    (fun v11 v13 wr => S.length - natV v13)
  case atStart => exact ⟨0, rfl, rfl, Nat.zero_le _, HRow.out, HS4.out, HA4.out, HB4.out⟩
  case round =>
    obtain ⟨i, rfl, rfl, hi, hRow, hS, hA, hB⟩ := hrel
    have HSr := Aside0.mk hS
    have HAr := Aside0.mk hA
    have HBr := Aside0.mk hB
    have HRr := Aside0.mk hRow
    have gWr : wr.cell? ⟨w.heap.size, 2, none⟩ = some (.int .i64 W) := (blk_cell hA 2).trans rfl
    have gTr : wr.cell? ⟨w.heap.size, 3, none⟩ = some (.int .i64 ta) := (blk_cell hA 3).trans rfl
    have gUr : wr.cell? ⟨w.heap.size, 4, none⟩ = some (.int .i64 tb) := (blk_cell hA 4).trans rfl
    clear hS hA hB
    by_cases hlt : i < S.length
    · obtain ⟨g, rfl, gx, gy⟩ := hRow.at_ i hlt
      obtain ⟨⟨x, y⟩, hxy⟩ : ∃ s, S[i] = s := ⟨_, rfl⟩
      have hxr := HFi.out.2 _ (List.getElem_mem hlt)
      have hfx := HFr.out _ (List.getElem_mem hlt)
      have htk : inS (S.take (i + 1)) T = (inS (S.take i) T || (decide (x ≤ T) && decide (T < y))) := by
        rw [List.take_succ_eq_append_getElem hlt, inS_snoc, hxy]
      have hpw := HFi.out.1
      rw [List.pairwise_iff_getElem] at hpw
      rw [hxy] at gx gy hxr hfx
      dsimp only at gx gy hxr hfx
      have hho := holds_calls x y T ⟨hxr.2.1, by omega⟩ ⟨by omega, hxr.2.2⟩ hTr
      obtain ⟨hb, hhb⟩ : ∃ hb, (decide (x ≤ T) && decide (T < y)) = hb := ⟨_, rfl⟩
      rw [hhb] at hho htk
      have HHo := Aside0.mk hho
      have HRi := Aside0.mk (right_calls x y ⟨hxr.2.1, by omega⟩ ⟨by omega, hxr.2.2⟩ (by omega))
      have hem := pempty_calls (x, y) ⟨⟨hxr.2.1, by show x ≤ _; omega⟩, ⟨by show (0 : Int) ≤ y; omega, hxr.2.2⟩⟩
      rw [show decide ((x, y).1 ≥ (x, y).2) = false by simp; omega] at hem
      have HEm := Aside0.mk hem
      have exF : decide (x < F) = false := by simp; omega
      have HXY := Aside0.mk hxy
      have HPW := Aside0.mk hpw
      clear hho hhb hem hRow hxy hpw
      rcases Nat.eq_zero_or_pos i with h0 | h0
      · subst h0
        have h00 : inS (S.take 0) T = false := rfl
        rw [h00, Bool.false_or] at htk
        have HIN := Aside0.mk htk
        rw [h00]
        have gx : wr.cell? ⟨g, 0, none⟩ = some (.int .i64 x) := gx
        have gy : wr.cell? ⟨g, 1, none⟩ = some (.int .i64 y) := gy
        have e0 : decide (0 < S.length) = true := decide_eq_true (by omega)
        have e1 : decide ((0 : Int) < (S.length : Int)) = true := decide_eq_true (by omega)
        clear htk h00
        go_wp2_with (go_at_call 26; refine (HHo.out _).mono ?_; rintro ev wa ⟨rfl, hBa⟩)
        have hxa : wa.cell? ⟨g, 0, none⟩ = some (.int .i64 x) := below_cell1 hBa gx
        have hya : wa.cell? ⟨g, 1, none⟩ = some (.int .i64 y) := below_cell1 hBa gy
        have hBa : Below wr.heap.size wr wa.drew := below_drew1 hBa
        refine start_ (n := 40) (S := fun w' => w'.cell? ⟨g, 0, none⟩ = some (.int .i64 x) ∧ w'.cell? ⟨g, 1, none⟩ = some (.int .i64 y)) (ds := []) #[false, false, false, false, false, false, false, false, false, false, false, false, false, false, false, false, false, false, false, false, false, false, false, false, false, false, false, false, false, false, false, false, false, false, false, false, false, false, false, false] (by kernel_rfl) rfl rfl ⟨hxa, hya⟩ (fun hHeld => ?_); refine with_tabW spansRa.tab11 spansRa.bits11 (fun HT_ HW_ => ?_)
        refine pu 0 (some 51) ?_ HT_ rfl rfl (by kernel_rfl) (fun _ _ _ h => h) (Or.inl ⟨by rfl, ?_⟩) ?_ ?_ ?_
        rotate_left
        · intro w'; go_simp; with_reducible rfl
        rotate_left
        · simp only [Act.put, sA, sB, sC, i64_w]; rfl
        refine pu 1 (some 52) ?_ HT_ rfl rfl (by kernel_rfl) (fun _ _ _ h => h) (Or.inl ⟨by rfl, ?_⟩) ?_ ?_ ?_
        rotate_left
        · intro w'; go_simp; with_reducible rfl
        rotate_left
        · simp only [Act.put, sA, sB, sC, i64_w]; rfl
        refine pu 2 (some 53) ?_ HT_ rfl rfl (by kernel_rfl) (fun _ _ _ h => h) (Or.inl ⟨by rfl, ?_⟩) ?_ ?_ ?_
        rotate_left
        · intro w'; go_simp; with_reducible rfl
        rotate_left
        · simp only [Act.put, sA, sB, sC, i64_w]; rfl
        refine tk 3 (some 54) ?_ HT_ HW_ rfl rfl (by kernel_rfl) (fun _ _ _ h => h) (Or.inl ⟨by rfl, ?_⟩) hHeld ?_ ?_ ?_
        rotate_left
        · rintro w' ⟨s0, s1⟩; go_simp; with_reducible rfl
        rotate_left
        · simp only [Act.put, sA, sB, sC, i64_w]; rfl
        refine on 4 (some 55) HT_ rfl rfl (by kernel_rfl) (by decide) (fun K hK => ?_)
        refine goes_ Try.func27 (by kernel_rfl) rfl #[.agg #[.int .i64 x, .int .i64 y]] (by rfl) rfl rfl (by (try simp only [List.map_toArray, List.map_cons, List.map_nil]); first | done | rfl | (simp only [List.length_drop, List.length_take]; rfl)) ?_
        with_reducible refine (HRi.out _).mono ?_
        rintro ev wb ⟨rfl, hbb⟩
        have hxb := below_cell1 hbb hxa
        have hyb := below_cell1 hbb hya
        have hBb : Below wr.heap.size wr wb := below_step hBa hbb
        clear hbb
        refine ⟨_, rfl, ?_⟩
        refine hK.out _ _ ⟨hxb, hyb⟩ (fun hHeld => ?_)
        clear hK K
        refine norm_ (a' := ?_) ?_ ?_
        rotate_left
        · show Act.put _ (some 55) _ = _; simp only [Act.put, sA, sB, sC, i64_w]; rfl
        refine pu 5 (some 56) ?_ HT_ rfl rfl (by kernel_rfl) (fun _ _ _ h => h) (Or.inl ⟨by rfl, ?_⟩) ?_ ?_ ?_
        rotate_left
        · intro w'; go_simp; with_reducible rfl
        rotate_left
        · simp only [Act.put, sA, sB, sC, i64_w]; rfl
        refine pu 6 (some 57) ?_ HT_ rfl rfl (by kernel_rfl) (fun _ _ _ h => h) (Or.inl ⟨by rfl, ?_⟩) ?_ ?_ ?_
        rotate_left
        · intro w'; go_simp; with_reducible rfl
        rotate_left
        · simp only [Act.put, sA, sB, sC, i64_w]; rfl
        refine pu 7 (some 58) ?_ HT_ rfl rfl (by kernel_rfl) (fun _ _ _ h => h) (Or.inl ⟨by rfl, ?_⟩) ?_ ?_ ?_
        rotate_left
        · intro w'; go_simp; with_reducible rfl
        rotate_left
        · simp only [Act.put, sA, sB, sC, i64_w]; rfl
        refine pu 8 (some 59) ?_ HT_ rfl rfl (by kernel_rfl) (fun _ _ _ h => h) (Or.inl ⟨by rfl, ?_⟩) ?_ ?_ ?_
        rotate_left
        · intro w'; go_simp; with_reducible rfl
        rotate_left
        · simp only [Act.put, sA, sB, sC, i64_w]; rfl
        refine pu 9 (some 60) ?_ HT_ rfl rfl (by kernel_rfl) (fun _ _ _ h => h) (Or.inl ⟨by rfl, ?_⟩) ?_ ?_ ?_
        rotate_left
        · intro w'; go_simp; with_reducible rfl
        rotate_left
        · simp only [Act.put, sA, sB, sC, i64_w]; rfl
        refine tk 10 (some 61) ?_ HT_ HW_ rfl rfl (by kernel_rfl) (fun _ _ _ h => h) (Or.inl ⟨by rfl, ?_⟩) hHeld ?_ ?_ ?_
        rotate_left
        · rintro w' ⟨s0, s1⟩; go_simp; with_reducible rfl
        rotate_left
        · simp only [Act.put, sA, sB, sC, i64_w]; rfl
        refine on 11 (some 62) HT_ rfl rfl (by kernel_rfl) (by decide) (fun K hK => ?_)
        refine goes_ Try.func28 (by kernel_rfl) rfl #[.agg #[.int .i64 x, .int .i64 y]] (by rfl) rfl rfl (by (try simp only [List.map_toArray, List.map_cons, List.map_nil]); first | done | rfl | (simp only [List.length_drop, List.length_take]; rfl)) ?_
        with_reducible refine (HEm.out _).mono ?_
        rintro ev wc ⟨rfl, hbc⟩
        have hxc := below_cell1 hbc hxb
        have hyc := below_cell1 hbc hyb
        have hBc : Below wr.heap.size wr wc := below_step hBb hbc
        clear hbc
        refine ⟨_, rfl, ?_⟩
        refine hK.out _ _ ⟨hxc, hyc⟩ (fun hHeld => ?_)
        clear hK K
        refine norm_ (a' := ?_) ?_ ?_
        rotate_left
        · show Act.put _ (some 62) _ = _; simp only [Act.put, sA, sB, sC, i64_w]; rfl
        refine pu 12 (some 63) ?_ HT_ rfl rfl (by kernel_rfl) (fun _ _ _ h => h) (Or.inl ⟨by rfl, ?_⟩) ?_ ?_ ?_
        rotate_left
        · intro w'; go_simp; with_reducible rfl
        rotate_left
        · simp only [Act.put, sA, sB, sC, i64_w]; rfl
        refine pu 13 (some 64) ?_ HT_ rfl rfl (by kernel_rfl) (fun _ _ _ h => h) (Or.inl ⟨by rfl, ?_⟩) ?_ ?_ ?_
        rotate_left
        · intro w'; go_simp; with_reducible rfl
        rotate_left
        · simp only [Act.put, sA, sB, sC, i64_w]; rfl
        refine pu 14 (some 65) ?_ HT_ rfl rfl (by kernel_rfl) (fun _ _ _ h => h) (Or.inl ⟨by rfl, ?_⟩) ?_ ?_ ?_
        rotate_left
        · intro w'; go_simp; with_reducible rfl
        rotate_left
        · simp only [Act.put, sA, sB, sC, i64_w]; rfl
        refine pu 15 (some 66) ?_ HT_ rfl rfl (by kernel_rfl) (fun _ _ _ h => h) (Or.inl ⟨by rfl, ?_⟩) ?_ ?_ ?_
        rotate_left
        · intro w'; go_simp; with_reducible rfl
        rotate_left
        · simp only [Act.put, sA, sB, sC, i64_w]; rfl
        refine pu 16 (some 67) ?_ HT_ rfl rfl (by kernel_rfl) (fun _ _ _ h => h) (Or.inl ⟨by rfl, ?_⟩) ?_ ?_ ?_
        rotate_left
        · intro w'; go_simp; with_reducible rfl
        rotate_left
        · simp only [Act.put, sA, sB, sC, i64_w]; rfl
        refine pu 17 (some 68) undef HT_ rfl rfl (by kernel_rfl) (fun _ _ _ h => h) (Or.inr ⟨by rfl, rfl⟩) ?_ ?_ ?_
        rotate_left
        · simp only [Act.put, sA, sB, sC, i64_w]; rfl
        refine pu 18 (some 69) undef HT_ rfl rfl (by kernel_rfl) (fun _ _ _ h => h) (Or.inr ⟨by rfl, rfl⟩) ?_ ?_ ?_
        rotate_left
        · simp only [Act.put, sA, sB, sC, i64_w]; rfl
        refine pu 19 (some 70) undef HT_ rfl rfl (by kernel_rfl) (fun _ _ _ h => h) (Or.inr ⟨by rfl, rfl⟩) ?_ ?_ ?_
        rotate_left
        · simp only [Act.put, sA, sB, sC, i64_w]; rfl
        refine pu 20 (some 71) undef HT_ rfl rfl (by kernel_rfl) (fun _ _ _ h => h) (Or.inr ⟨by rfl, rfl⟩) ?_ ?_ ?_
        rotate_left
        · simp only [Act.put, sA, sB, sC, i64_w]; rfl
        refine pu 21 (some 72) undef HT_ rfl rfl (by kernel_rfl) (fun _ _ _ h => h) (Or.inr ⟨by rfl, rfl⟩) ?_ ?_ ?_
        rotate_left
        · simp only [Act.put, sA, sB, sC, i64_w]; rfl
        refine pu 22 (some 73) undef HT_ rfl rfl (by kernel_rfl) (fun _ _ _ h => h) (Or.inr ⟨by rfl, rfl⟩) ?_ ?_ ?_
        rotate_left
        · simp only [Act.put, sA, sB, sC, i64_w]; rfl
        refine pu 23 (some 74) undef HT_ rfl rfl (by kernel_rfl) (fun _ _ _ h => h) (Or.inr ⟨by rfl, rfl⟩) ?_ ?_ ?_
        rotate_left
        · simp only [Act.put, sA, sB, sC, i64_w]; rfl
        refine pu 24 (some 75) undef HT_ rfl rfl (by kernel_rfl) (fun _ _ _ h => h) (Or.inr ⟨by rfl, rfl⟩) ?_ ?_ ?_
        rotate_left
        · simp only [Act.put, sA, sB, sC, i64_w]; rfl
        refine pu 25 (some 76) undef HT_ rfl rfl (by kernel_rfl) (fun _ _ _ h => h) (Or.inr ⟨by rfl, rfl⟩) ?_ ?_ ?_
        rotate_left
        · simp only [Act.put, sA, sB, sC, i64_w]; rfl
        refine pu 26 (some 77) undef HT_ rfl rfl (by kernel_rfl) (fun _ _ _ h => h) (Or.inr ⟨by rfl, rfl⟩) ?_ ?_ ?_
        rotate_left
        · simp only [Act.put, sA, sB, sC, i64_w]; rfl
        refine pu 27 (some 78) undef HT_ rfl rfl (by kernel_rfl) (fun _ _ _ h => h) (Or.inr ⟨by rfl, rfl⟩) ?_ ?_ ?_
        rotate_left
        · simp only [Act.put, sA, sB, sC, i64_w]; rfl
        refine pu 28 (some 79) undef HT_ rfl rfl (by kernel_rfl) (fun _ _ _ h => h) (Or.inr ⟨by rfl, rfl⟩) ?_ ?_ ?_
        rotate_left
        · simp only [Act.put, sA, sB, sC, i64_w]; rfl
        refine pu 29 (some 80) ?_ HT_ rfl rfl (by kernel_rfl) (fun _ _ _ h => h) (Or.inl ⟨by rfl, ?_⟩) ?_ ?_ ?_
        rotate_left
        · intro w'; go_simp; with_reducible rfl
        rotate_left
        · simp only [Act.put, sA, sB, sC, i64_w]; rfl
        refine pu 30 (some 81) ?_ HT_ rfl rfl (by kernel_rfl) (fun _ _ _ h => h) (Or.inl ⟨by rfl, ?_⟩) ?_ ?_ ?_
        rotate_left
        · intro w'; go_simp; with_reducible rfl
        rotate_left
        · simp only [Act.put, sA, sB, sC, i64_w]; rfl
        refine pu 31 (some 82) ?_ HT_ rfl rfl (by kernel_rfl) (fun _ _ _ h => h) (Or.inl ⟨by rfl, ?_⟩) ?_ ?_ ?_
        rotate_left
        · intro w'; go_simp; with_reducible rfl
        rotate_left
        · simp only [Act.put, sA, sB, sC, i64_w]; rfl
        refine pu 32 (some 83) ?_ HT_ rfl rfl (by kernel_rfl) (fun _ _ _ h => h) (Or.inl ⟨by rfl, ?_⟩) ?_ ?_ ?_
        rotate_left
        · intro w'; go_simp; with_reducible rfl
        rotate_left
        · simp only [Act.put, sA, sB, sC, i64_w]; rfl
        refine pu 33 (some 84) ?_ HT_ rfl rfl (by kernel_rfl) (fun _ _ _ h => h) (Or.inl ⟨by rfl, ?_⟩) ?_ ?_ ?_
        rotate_left
        · intro w'; go_simp; with_reducible rfl
        rotate_left
        · simp only [Act.put, sA, sB, sC, i64_w]; rfl
        refine pu 34 (some 85) ?_ HT_ rfl rfl (by kernel_rfl) (fun _ _ _ h => h) (Or.inl ⟨by rfl, ?_⟩) ?_ ?_ ?_
        rotate_left
        · intro w'; go_simp; with_reducible rfl
        rotate_left
        · simp only [Act.put, sA, sB, sC, i64_w]; rfl
        refine pu 35 (some 86) ?_ HT_ rfl rfl (by kernel_rfl) (fun _ _ _ h => h) (Or.inl ⟨by rfl, ?_⟩) ?_ ?_ ?_
        rotate_left
        · intro w'; go_simp; with_reducible rfl
        rotate_left
        · simp only [Act.put, sA, sB, sC, i64_w]; rfl
        refine pu 37 (some 88) ?_ HT_ rfl rfl (by kernel_rfl) (fun _ _ _ h => h) (Or.inl ⟨by rfl, ?_⟩) ?_ ?_ ?_
        rotate_left
        · intro w'; go_simp; with_reducible rfl
        rotate_left
        · simp only [Act.put, sA, sB, sC, i64_w]; rfl
        refine tk 36 (some 87) ?_ HT_ HW_ rfl rfl (by kernel_rfl) (fun _ _ _ h => h) (Or.inl ⟨by rfl, ?_⟩) hHeld ?_ ?_ ?_
        rotate_left
        · rintro w' ⟨s0, s1⟩; go_simp; with_reducible rfl
        rotate_left
        · simp only [Act.put, sA, sB, sC, i64_w]; rfl
        refine pu 38 (some 89) ?_ HT_ rfl rfl (by kernel_rfl) (fun _ _ _ h => h) (Or.inl ⟨by rfl, ?_⟩) ?_ ?_ ?_
        rotate_left
        · intro w'; go_simp; with_reducible rfl
        rotate_left
        · simp only [Act.put, sA, sB, sC, i64_w]; rfl
        refine pu 39 (some 90) ?_ HT_ rfl rfl (by kernel_rfl) (fun _ _ _ h => h) (Or.inl ⟨by rfl, ?_⟩) ?_ ?_ ?_
        rotate_left
        · intro w'; go_simp; with_reducible rfl
        rotate_left
        · simp only [Act.put, sA, sB, sC, i64_w]; rfl
        refine done_ (done_of HT_.out (by kernel_rfl)) ?_
        go_wp2
        go_roundw
        case rel => exact ⟨0 + 1, by go_num, by rw [HIN.out], by omega, HRr.out.below hBc, HSr.out.below hBc, blk_below HAr.out hBc, HBr.out.trans (hBc.mono HBr.out.size)⟩
        case measure => simp [natV]; omega
      · obtain ⟨k, rfl⟩ : ∃ k, i = k + 1 := ⟨i - 1, by omega⟩
        obtain ⟨z, hz⟩ : ∃ z, S[k].2 = z := ⟨_, rfl⟩
        have gz : wr.cell? ⟨g, k * 2 + 1, none⟩ = some (.int .i64 z) := by
          obtain ⟨g', e', _, gz⟩ := HRr.out.at_ k (by omega)
          injection e' with e'
          injection e' with e'
          subst e'
          rw [hz] at gz
          exact gz
        have hzx : z < x := by
          have h := HPW.out k (k + 1) (by omega) hlt (by omega)
          rw [HXY.out, hz] at h
          exact h
        have ezx : decide (x ≤ z) = false := by simp; omega
        have e0 : decide (k + 1 < S.length) = true := by simp; omega
        have e1 : decide ((k : Int) + 1 < (S.length : Int)) = true := by simp; omega
        have htn : ((k : Int) + 1).toNat = k + 1 := by omega
        have hi1 : (0 : Int) ≤ (k : Int) + 1 := by omega
        have hkp : decide ((0 : Int) < (k : Int) + 1) = true := decide_eq_true (by omega)
        have hkl : (k : Int) < (S.length : Int) := by omega
        have hkl1 : (k : Int) + 1 < (S.length : Int) := by omega
        have hwk : IntKind.i64.wrap (k : Int) = (k : Int) := by rw [IntKind.wrap_i64]; omega
        have hwk2 : IntKind.i64.wrap ((k : Int) + 1 - 1) = (k : Int) := by rw [IntKind.wrap_i64]; omega
        have hwk1 : IntKind.i64.wrap ((k : Int) + 1 + 1) = (k : Int) + 1 + 1 := by rw [IntKind.wrap_i64]; omega
        clear hz
        obtain ⟨bi, hbi⟩ : ∃ bi, inS (S.take (k + 1)) T = bi := ⟨_, rfl⟩
        rw [hbi] at htk
        rw [hbi]
        cases bi with
        | true =>
          rw [Bool.true_or] at htk
          have HIN := Aside0.mk htk
          clear htk hbi
          go_wp2
          have hxa : wr.cell? ⟨g, (k + 1) * 2, none⟩ = some (.int .i64 x) := gx
          have hya : wr.cell? ⟨g, (k + 1) * 2 + 1, none⟩ = some (.int .i64 y) := gy
          have hza : wr.cell? ⟨g, k * 2 + 1, none⟩ = some (.int .i64 z) := gz
          have hBa : Below wr.heap.size wr wr.drew := below_drew1 (Below.refl _ _)
          refine start_ (n := 40) (S := fun w' => w'.cell? ⟨g, (k + 1) * 2, none⟩ = some (.int .i64 x) ∧ w'.cell? ⟨g, (k + 1) * 2 + 1, none⟩ = some (.int .i64 y) ∧ w'.cell? ⟨g, k * 2 + 1, none⟩ = some (.int .i64 z)) (ds := []) #[false, false, false, false, false, false, false, false, false, false, false, false, false, false, false, false, false, false, false, false, false, false, false, false, false, false, false, false, false, false, false, false, false, false, false, false, false, false, false, false] (by kernel_rfl) rfl rfl ⟨hxa, hya, hza⟩ (fun hHeld => ?_); refine with_tabW spansRa.tab11 spansRa.bits11 (fun HT_ HW_ => ?_)
          refine pu 0 (some 51) ?_ HT_ rfl rfl (by kernel_rfl) (fun _ _ _ h => h) (Or.inl ⟨by rfl, ?_⟩) ?_ ?_ ?_
          rotate_left
          · intro w'; go_simp; with_reducible rfl
          rotate_left
          · simp only [Act.put, sA, sB, sC, i64_w]; rfl
          refine pu 1 (some 52) ?_ HT_ rfl rfl (by kernel_rfl) (fun _ _ _ h => h) (Or.inl ⟨by rfl, ?_⟩) ?_ ?_ ?_
          rotate_left
          · intro w'; go_simp; with_reducible rfl
          rotate_left
          · simp only [Act.put, sA, sB, sC, i64_w]; rfl
          refine pu 2 (some 53) ?_ HT_ rfl rfl (by kernel_rfl) (fun _ _ _ h => h) (Or.inl ⟨by rfl, ?_⟩) ?_ ?_ ?_
          rotate_left
          · intro w'; go_simp; with_reducible rfl
          rotate_left
          · simp only [Act.put, sA, sB, sC, i64_w]; rfl
          refine tk 3 (some 54) ?_ HT_ HW_ rfl rfl (by kernel_rfl) (fun _ _ _ h => h) (Or.inl ⟨by rfl, ?_⟩) hHeld ?_ ?_ ?_
          rotate_left
          · rintro w' ⟨s0, s1, s2⟩; go_simp; with_reducible rfl
          rotate_left
          · simp only [Act.put, sA, sB, sC, i64_w]; rfl
          refine on 4 (some 55) HT_ rfl rfl (by kernel_rfl) (by decide) (fun K hK => ?_)
          refine goes_ Try.func27 (by kernel_rfl) rfl #[.agg #[.int .i64 x, .int .i64 y]] (by rfl) rfl rfl (by (try simp only [List.map_toArray, List.map_cons, List.map_nil]); first | done | rfl | (simp only [List.length_drop, List.length_take]; rfl)) ?_
          with_reducible refine (HRi.out _).mono ?_
          rintro ev wb ⟨rfl, hbb⟩
          have hxb := below_cell1 hbb hxa
          have hyb := below_cell1 hbb hya
          have hzb := below_cell1 hbb hza
          have hBb : Below wr.heap.size wr wb := below_step hBa hbb
          clear hbb
          refine ⟨_, rfl, ?_⟩
          refine hK.out _ _ ⟨hxb, hyb, hzb⟩ (fun hHeld => ?_)
          clear hK K
          refine norm_ (a' := ?_) ?_ ?_
          rotate_left
          · show Act.put _ (some 55) _ = _; simp only [Act.put, sA, sB, sC, i64_w]; rfl
          refine pu 5 (some 56) ?_ HT_ rfl rfl (by kernel_rfl) (fun _ _ _ h => h) (Or.inl ⟨by rfl, ?_⟩) ?_ ?_ ?_
          rotate_left
          · intro w'; go_simp; with_reducible rfl
          rotate_left
          · simp only [Act.put, sA, sB, sC, i64_w]; rfl
          refine pu 6 (some 57) ?_ HT_ rfl rfl (by kernel_rfl) (fun _ _ _ h => h) (Or.inl ⟨by rfl, ?_⟩) ?_ ?_ ?_
          rotate_left
          · intro w'; go_simp; with_reducible rfl
          rotate_left
          · simp only [Act.put, sA, sB, sC, i64_w]; rfl
          refine pu 7 (some 58) ?_ HT_ rfl rfl (by kernel_rfl) (fun _ _ _ h => h) (Or.inl ⟨by rfl, ?_⟩) ?_ ?_ ?_
          rotate_left
          · intro w'; go_simp; with_reducible rfl
          rotate_left
          · simp only [Act.put, sA, sB, sC, i64_w]; rfl
          refine pu 8 (some 59) ?_ HT_ rfl rfl (by kernel_rfl) (fun _ _ _ h => h) (Or.inl ⟨by rfl, ?_⟩) ?_ ?_ ?_
          rotate_left
          · intro w'; go_simp; with_reducible rfl
          rotate_left
          · simp only [Act.put, sA, sB, sC, i64_w]; rfl
          refine pu 9 (some 60) ?_ HT_ rfl rfl (by kernel_rfl) (fun _ _ _ h => h) (Or.inl ⟨by rfl, ?_⟩) ?_ ?_ ?_
          rotate_left
          · intro w'; go_simp; with_reducible rfl
          rotate_left
          · simp only [Act.put, sA, sB, sC, i64_w]; rfl
          refine tk 10 (some 61) ?_ HT_ HW_ rfl rfl (by kernel_rfl) (fun _ _ _ h => h) (Or.inl ⟨by rfl, ?_⟩) hHeld ?_ ?_ ?_
          rotate_left
          · rintro w' ⟨s0, s1, s2⟩; go_simp; with_reducible rfl
          rotate_left
          · simp only [Act.put, sA, sB, sC, i64_w]; rfl
          refine on 11 (some 62) HT_ rfl rfl (by kernel_rfl) (by decide) (fun K hK => ?_)
          refine goes_ Try.func28 (by kernel_rfl) rfl #[.agg #[.int .i64 x, .int .i64 y]] (by rfl) rfl rfl (by (try simp only [List.map_toArray, List.map_cons, List.map_nil]); first | done | rfl | (simp only [List.length_drop, List.length_take]; rfl)) ?_
          with_reducible refine (HEm.out _).mono ?_
          rintro ev wc ⟨rfl, hbc⟩
          have hxc := below_cell1 hbc hxb
          have hyc := below_cell1 hbc hyb
          have hzc := below_cell1 hbc hzb
          have hBc : Below wr.heap.size wr wc := below_step hBb hbc
          clear hbc
          refine ⟨_, rfl, ?_⟩
          refine hK.out _ _ ⟨hxc, hyc, hzc⟩ (fun hHeld => ?_)
          clear hK K
          refine norm_ (a' := ?_) ?_ ?_
          rotate_left
          · show Act.put _ (some 62) _ = _; simp only [Act.put, sA, sB, sC, i64_w]; rfl
          refine pu 12 (some 63) ?_ HT_ rfl rfl (by kernel_rfl) (fun _ _ _ h => h) (Or.inl ⟨by rfl, ?_⟩) ?_ ?_ ?_
          rotate_left
          · intro w'; go_simp; with_reducible rfl
          rotate_left
          · simp only [Act.put, sA, sB, sC, i64_w]; rfl
          refine pu 13 (some 64) ?_ HT_ rfl rfl (by kernel_rfl) (fun _ _ _ h => h) (Or.inl ⟨by rfl, ?_⟩) ?_ ?_ ?_
          rotate_left
          · intro w'; go_simp; with_reducible rfl
          rotate_left
          · simp only [Act.put, sA, sB, sC, i64_w]; rfl
          refine pu 14 (some 65) ?_ HT_ rfl rfl (by kernel_rfl) (fun _ _ _ h => h) (Or.inl ⟨by rfl, ?_⟩) ?_ ?_ ?_
          rotate_left
          · intro w'; go_simp; with_reducible rfl
          rotate_left
          · simp only [Act.put, sA, sB, sC, i64_w]; rfl
          refine pu 15 (some 66) ?_ HT_ rfl rfl (by kernel_rfl) (fun _ _ _ h => h) (Or.inl ⟨by rfl, ?_⟩) ?_ ?_ ?_
          rotate_left
          · intro w'; go_simp; with_reducible rfl
          rotate_left
          · simp only [Act.put, sA, sB, sC, i64_w]; rfl
          refine pu 16 (some 67) ?_ HT_ rfl rfl (by kernel_rfl) (fun _ _ _ h => h) (Or.inl ⟨by rfl, ?_⟩) ?_ ?_ ?_
          rotate_left
          · intro w'; go_simp; with_reducible rfl
          rotate_left
          · simp only [Act.put, sA, sB, sC, i64_w]; rfl
          refine pu 17 (some 68) ?_ HT_ rfl rfl (by kernel_rfl) (fun _ _ _ h => h) (Or.inl ⟨by rfl, ?_⟩) ?_ ?_ ?_
          rotate_left
          · intro w'; go_simp; with_reducible rfl
          rotate_left
          · simp only [Act.put, sA, sB, sC, i64_w]; rfl
          refine pu 18 (some 69) ?_ HT_ rfl rfl (by kernel_rfl) (fun _ _ _ h => h) (Or.inl ⟨by rfl, ?_⟩) ?_ ?_ ?_
          rotate_left
          · intro w'; go_simp; with_reducible rfl
          rotate_left
          · simp only [Act.put, sA, sB, sC, i64_w]; rfl
          refine pu 19 (some 70) ?_ HT_ rfl rfl (by kernel_rfl) (fun _ _ _ h => h) (Or.inl ⟨by rfl, ?_⟩) ?_ ?_ ?_
          rotate_left
          · intro w'; go_simp; with_reducible rfl
          rotate_left
          · simp only [Act.put, sA, sB, sC, i64_w]; rfl
          refine pu 20 (some 71) ?_ HT_ rfl rfl (by kernel_rfl) (fun _ _ _ h => h) (Or.inl ⟨by rfl, ?_⟩) ?_ ?_ ?_
          rotate_left
          · intro w'; go_simp; with_reducible rfl
          rotate_left
          · simp only [Act.put, sA, sB, sC, i64_w]; rfl
          refine pu 22 (some 73) ?_ HT_ rfl rfl (by kernel_rfl) (fun _ _ _ h => h) (Or.inl ⟨by rfl, ?_⟩) ?_ ?_ ?_
          rotate_left
          · intro w'; go_simp; with_reducible rfl
          rotate_left
          · simp only [Act.put, sA, sB, sC, i64_w]; rfl
          refine pu 23 (some 74) ?_ HT_ rfl rfl (by kernel_rfl) (fun _ _ _ h => h) (Or.inl ⟨by rfl, ?_⟩) ?_ ?_ ?_
          rotate_left
          · intro w'; go_simp; with_reducible rfl
          rotate_left
          · simp only [Act.put, sA, sB, sC, i64_w]; rfl
          refine pu 24 (some 75) ?_ HT_ rfl rfl (by kernel_rfl) (fun _ _ _ h => h) (Or.inl ⟨by rfl, ?_⟩) ?_ ?_ ?_
          rotate_left
          · intro w'; go_simp; with_reducible rfl
          rotate_left
          · simp only [Act.put, sA, sB, sC, i64_w]; rfl
          refine pu 25 (some 76) ?_ HT_ rfl rfl (by kernel_rfl) (fun _ _ _ h => h) (Or.inl ⟨by rfl, ?_⟩) ?_ ?_ ?_
          rotate_left
          · intro w'; go_simp; with_reducible rfl
          rotate_left
          · simp only [Act.put, sA, sB, sC, i64_w]; rfl
          refine pu 26 (some 77) ?_ HT_ rfl rfl (by kernel_rfl) (fun _ _ _ h => h) (Or.inl ⟨by rfl, ?_⟩) ?_ ?_ ?_
          rotate_left
          · intro w'; go_simp; with_reducible rfl
          rotate_left
          · simp only [Act.put, sA, sB, sC, i64_w]; rfl
          refine tk 21 (some 72) ?_ HT_ HW_ rfl rfl (by kernel_rfl) (fun _ _ _ h => h) (Or.inl ⟨by rfl, ?_⟩) hHeld ?_ ?_ ?_
          rotate_left
          · rintro w' ⟨s0, s1, s2⟩; go_simp; with_reducible rfl
          rotate_left
          · simp only [Act.put, sA, sB, sC, i64_w]; rfl
          refine tk 27 (some 78) ?_ HT_ HW_ rfl rfl (by kernel_rfl) (fun _ _ _ h => h) (Or.inl ⟨by rfl, ?_⟩) hHeld ?_ ?_ ?_
          rotate_left
          · rintro w' ⟨s0, s1, s2⟩; go_simp; with_reducible rfl
          rotate_left
          · simp only [Act.put, sA, sB, sC, i64_w]; rfl
          refine pu 28 (some 79) ?_ HT_ rfl rfl (by kernel_rfl) (fun _ _ _ h => h) (Or.inl ⟨by rfl, ?_⟩) ?_ ?_ ?_
          rotate_left
          · intro w'; go_simp; with_reducible rfl
          rotate_left
          · simp only [Act.put, sA, sB, sC, i64_w]; rfl
          refine pu 29 (some 80) ?_ HT_ rfl rfl (by kernel_rfl) (fun _ _ _ h => h) (Or.inl ⟨by rfl, ?_⟩) ?_ ?_ ?_
          rotate_left
          · intro w'; go_simp; with_reducible rfl
          rotate_left
          · simp only [Act.put, sA, sB, sC, i64_w]; rfl
          refine pu 30 (some 81) ?_ HT_ rfl rfl (by kernel_rfl) (fun _ _ _ h => h) (Or.inl ⟨by rfl, ?_⟩) ?_ ?_ ?_
          rotate_left
          · intro w'; go_simp; with_reducible rfl
          rotate_left
          · simp only [Act.put, sA, sB, sC, i64_w]; rfl
          refine pu 31 (some 82) ?_ HT_ rfl rfl (by kernel_rfl) (fun _ _ _ h => h) (Or.inl ⟨by rfl, ?_⟩) ?_ ?_ ?_
          rotate_left
          · intro w'; go_simp; with_reducible rfl
          rotate_left
          · simp only [Act.put, sA, sB, sC, i64_w]; rfl
          refine pu 32 (some 83) ?_ HT_ rfl rfl (by kernel_rfl) (fun _ _ _ h => h) (Or.inl ⟨by rfl, ?_⟩) ?_ ?_ ?_
          rotate_left
          · intro w'; go_simp; with_reducible rfl
          rotate_left
          · simp only [Act.put, sA, sB, sC, i64_w]; rfl
          refine pu 33 (some 84) ?_ HT_ rfl rfl (by kernel_rfl) (fun _ _ _ h => h) (Or.inl ⟨by rfl, ?_⟩) ?_ ?_ ?_
          rotate_left
          · intro w'; go_simp; with_reducible rfl
          rotate_left
          · simp only [Act.put, sA, sB, sC, i64_w]; rfl
          refine pu 34 (some 85) ?_ HT_ rfl rfl (by kernel_rfl) (fun _ _ _ h => h) (Or.inl ⟨by rfl, ?_⟩) ?_ ?_ ?_
          rotate_left
          · intro w'; go_simp; with_reducible rfl
          rotate_left
          · simp only [Act.put, sA, sB, sC, i64_w]; rfl
          refine pu 35 (some 86) ?_ HT_ rfl rfl (by kernel_rfl) (fun _ _ _ h => h) (Or.inl ⟨by rfl, ?_⟩) ?_ ?_ ?_
          rotate_left
          · intro w'; go_simp; with_reducible rfl
          rotate_left
          · simp only [Act.put, sA, sB, sC, i64_w]; rfl
          refine pu 37 (some 88) ?_ HT_ rfl rfl (by kernel_rfl) (fun _ _ _ h => h) (Or.inl ⟨by rfl, ?_⟩) ?_ ?_ ?_
          rotate_left
          · intro w'; go_simp; with_reducible rfl
          rotate_left
          · simp only [Act.put, sA, sB, sC, i64_w]; rfl
          refine tk 36 (some 87) ?_ HT_ HW_ rfl rfl (by kernel_rfl) (fun _ _ _ h => h) (Or.inl ⟨by rfl, ?_⟩) hHeld ?_ ?_ ?_
          rotate_left
          · rintro w' ⟨s0, s1, s2⟩; go_simp; with_reducible rfl
          rotate_left
          · simp only [Act.put, sA, sB, sC, i64_w]; rfl
          refine pu 38 (some 89) ?_ HT_ rfl rfl (by kernel_rfl) (fun _ _ _ h => h) (Or.inl ⟨by rfl, ?_⟩) ?_ ?_ ?_
          rotate_left
          · intro w'; go_simp; with_reducible rfl
          rotate_left
          · simp only [Act.put, sA, sB, sC, i64_w]; rfl
          refine pu 39 (some 90) ?_ HT_ rfl rfl (by kernel_rfl) (fun _ _ _ h => h) (Or.inl ⟨by rfl, ?_⟩) ?_ ?_ ?_
          rotate_left
          · intro w'; go_simp; with_reducible rfl
          rotate_left
          · simp only [Act.put, sA, sB, sC, i64_w]; rfl
          refine done_ (done_of HT_.out (by kernel_rfl)) ?_
          go_wp2
          go_roundw
          case rel => exact ⟨k + 1 + 1, by go_num, by rw [HIN.out], by omega, HRr.out.below hBc, HSr.out.below hBc, blk_below HAr.out hBc, HBr.out.trans (hBc.mono HBr.out.size)⟩
          case measure => simp [natV]; omega
        | false =>
          rw [Bool.false_or] at htk
          have HIN := Aside0.mk htk
          clear htk hbi
          go_wp2_with (go_at_call 26; refine (HHo.out _).mono ?_; rintro ev wa ⟨rfl, hBa⟩)
          have hxa : wa.cell? ⟨g, (k + 1) * 2, none⟩ = some (.int .i64 x) := below_cell1 hBa gx
          have hya : wa.cell? ⟨g, (k + 1) * 2 + 1, none⟩ = some (.int .i64 y) := below_cell1 hBa gy
          have hza : wa.cell? ⟨g, k * 2 + 1, none⟩ = some (.int .i64 z) := below_cell1 hBa gz
          have hBa : Below wr.heap.size wr wa.drew := below_drew1 hBa
          refine start_ (n := 40) (S := fun w' => w'.cell? ⟨g, (k + 1) * 2, none⟩ = some (.int .i64 x) ∧ w'.cell? ⟨g, (k + 1) * 2 + 1, none⟩ = some (.int .i64 y) ∧ w'.cell? ⟨g, k * 2 + 1, none⟩ = some (.int .i64 z)) (ds := []) #[false, false, false, false, false, false, false, false, false, false, false, false, false, false, false, false, false, false, false, false, false, false, false, false, false, false, false, false, false, false, false, false, false, false, false, false, false, false, false, false] (by kernel_rfl) rfl rfl ⟨hxa, hya, hza⟩ (fun hHeld => ?_); refine with_tabW spansRa.tab11 spansRa.bits11 (fun HT_ HW_ => ?_)
          refine pu 0 (some 51) ?_ HT_ rfl rfl (by kernel_rfl) (fun _ _ _ h => h) (Or.inl ⟨by rfl, ?_⟩) ?_ ?_ ?_
          rotate_left
          · intro w'; go_simp; with_reducible rfl
          rotate_left
          · simp only [Act.put, sA, sB, sC, i64_w]; rfl
          refine pu 1 (some 52) ?_ HT_ rfl rfl (by kernel_rfl) (fun _ _ _ h => h) (Or.inl ⟨by rfl, ?_⟩) ?_ ?_ ?_
          rotate_left
          · intro w'; go_simp; with_reducible rfl
          rotate_left
          · simp only [Act.put, sA, sB, sC, i64_w]; rfl
          refine pu 2 (some 53) ?_ HT_ rfl rfl (by kernel_rfl) (fun _ _ _ h => h) (Or.inl ⟨by rfl, ?_⟩) ?_ ?_ ?_
          rotate_left
          · intro w'; go_simp; with_reducible rfl
          rotate_left
          · simp only [Act.put, sA, sB, sC, i64_w]; rfl
          refine tk 3 (some 54) ?_ HT_ HW_ rfl rfl (by kernel_rfl) (fun _ _ _ h => h) (Or.inl ⟨by rfl, ?_⟩) hHeld ?_ ?_ ?_
          rotate_left
          · rintro w' ⟨s0, s1, s2⟩; go_simp; with_reducible rfl
          rotate_left
          · simp only [Act.put, sA, sB, sC, i64_w]; rfl
          refine on 4 (some 55) HT_ rfl rfl (by kernel_rfl) (by decide) (fun K hK => ?_)
          refine goes_ Try.func27 (by kernel_rfl) rfl #[.agg #[.int .i64 x, .int .i64 y]] (by rfl) rfl rfl (by (try simp only [List.map_toArray, List.map_cons, List.map_nil]); first | done | rfl | (simp only [List.length_drop, List.length_take]; rfl)) ?_
          with_reducible refine (HRi.out _).mono ?_
          rintro ev wb ⟨rfl, hbb⟩
          have hxb := below_cell1 hbb hxa
          have hyb := below_cell1 hbb hya
          have hzb := below_cell1 hbb hza
          have hBb : Below wr.heap.size wr wb := below_step hBa hbb
          clear hbb
          refine ⟨_, rfl, ?_⟩
          refine hK.out _ _ ⟨hxb, hyb, hzb⟩ (fun hHeld => ?_)
          clear hK K
          refine norm_ (a' := ?_) ?_ ?_
          rotate_left
          · show Act.put _ (some 55) _ = _; simp only [Act.put, sA, sB, sC, i64_w]; rfl
          refine pu 5 (some 56) ?_ HT_ rfl rfl (by kernel_rfl) (fun _ _ _ h => h) (Or.inl ⟨by rfl, ?_⟩) ?_ ?_ ?_
          rotate_left
          · intro w'; go_simp; with_reducible rfl
          rotate_left
          · simp only [Act.put, sA, sB, sC, i64_w]; rfl
          refine pu 6 (some 57) ?_ HT_ rfl rfl (by kernel_rfl) (fun _ _ _ h => h) (Or.inl ⟨by rfl, ?_⟩) ?_ ?_ ?_
          rotate_left
          · intro w'; go_simp; with_reducible rfl
          rotate_left
          · simp only [Act.put, sA, sB, sC, i64_w]; rfl
          refine pu 7 (some 58) ?_ HT_ rfl rfl (by kernel_rfl) (fun _ _ _ h => h) (Or.inl ⟨by rfl, ?_⟩) ?_ ?_ ?_
          rotate_left
          · intro w'; go_simp; with_reducible rfl
          rotate_left
          · simp only [Act.put, sA, sB, sC, i64_w]; rfl
          refine pu 8 (some 59) ?_ HT_ rfl rfl (by kernel_rfl) (fun _ _ _ h => h) (Or.inl ⟨by rfl, ?_⟩) ?_ ?_ ?_
          rotate_left
          · intro w'; go_simp; with_reducible rfl
          rotate_left
          · simp only [Act.put, sA, sB, sC, i64_w]; rfl
          refine pu 9 (some 60) ?_ HT_ rfl rfl (by kernel_rfl) (fun _ _ _ h => h) (Or.inl ⟨by rfl, ?_⟩) ?_ ?_ ?_
          rotate_left
          · intro w'; go_simp; with_reducible rfl
          rotate_left
          · simp only [Act.put, sA, sB, sC, i64_w]; rfl
          refine tk 10 (some 61) ?_ HT_ HW_ rfl rfl (by kernel_rfl) (fun _ _ _ h => h) (Or.inl ⟨by rfl, ?_⟩) hHeld ?_ ?_ ?_
          rotate_left
          · rintro w' ⟨s0, s1, s2⟩; go_simp; with_reducible rfl
          rotate_left
          · simp only [Act.put, sA, sB, sC, i64_w]; rfl
          refine on 11 (some 62) HT_ rfl rfl (by kernel_rfl) (by decide) (fun K hK => ?_)
          refine goes_ Try.func28 (by kernel_rfl) rfl #[.agg #[.int .i64 x, .int .i64 y]] (by rfl) rfl rfl (by (try simp only [List.map_toArray, List.map_cons, List.map_nil]); first | done | rfl | (simp only [List.length_drop, List.length_take]; rfl)) ?_
          with_reducible refine (HEm.out _).mono ?_
          rintro ev wc ⟨rfl, hbc⟩
          have hxc := below_cell1 hbc hxb
          have hyc := below_cell1 hbc hyb
          have hzc := below_cell1 hbc hzb
          have hBc : Below wr.heap.size wr wc := below_step hBb hbc
          clear hbc
          refine ⟨_, rfl, ?_⟩
          refine hK.out _ _ ⟨hxc, hyc, hzc⟩ (fun hHeld => ?_)
          clear hK K
          refine norm_ (a' := ?_) ?_ ?_
          rotate_left
          · show Act.put _ (some 62) _ = _; simp only [Act.put, sA, sB, sC, i64_w]; rfl
          refine pu 12 (some 63) ?_ HT_ rfl rfl (by kernel_rfl) (fun _ _ _ h => h) (Or.inl ⟨by rfl, ?_⟩) ?_ ?_ ?_
          rotate_left
          · intro w'; go_simp; with_reducible rfl
          rotate_left
          · simp only [Act.put, sA, sB, sC, i64_w]; rfl
          refine pu 13 (some 64) ?_ HT_ rfl rfl (by kernel_rfl) (fun _ _ _ h => h) (Or.inl ⟨by rfl, ?_⟩) ?_ ?_ ?_
          rotate_left
          · intro w'; go_simp; with_reducible rfl
          rotate_left
          · simp only [Act.put, sA, sB, sC, i64_w]; rfl
          refine pu 14 (some 65) ?_ HT_ rfl rfl (by kernel_rfl) (fun _ _ _ h => h) (Or.inl ⟨by rfl, ?_⟩) ?_ ?_ ?_
          rotate_left
          · intro w'; go_simp; with_reducible rfl
          rotate_left
          · simp only [Act.put, sA, sB, sC, i64_w]; rfl
          refine pu 15 (some 66) ?_ HT_ rfl rfl (by kernel_rfl) (fun _ _ _ h => h) (Or.inl ⟨by rfl, ?_⟩) ?_ ?_ ?_
          rotate_left
          · intro w'; go_simp; with_reducible rfl
          rotate_left
          · simp only [Act.put, sA, sB, sC, i64_w]; rfl
          refine pu 16 (some 67) ?_ HT_ rfl rfl (by kernel_rfl) (fun _ _ _ h => h) (Or.inl ⟨by rfl, ?_⟩) ?_ ?_ ?_
          rotate_left
          · intro w'; go_simp; with_reducible rfl
          rotate_left
          · simp only [Act.put, sA, sB, sC, i64_w]; rfl
          refine pu 17 (some 68) ?_ HT_ rfl rfl (by kernel_rfl) (fun _ _ _ h => h) (Or.inl ⟨by rfl, ?_⟩) ?_ ?_ ?_
          rotate_left
          · intro w'; go_simp; with_reducible rfl
          rotate_left
          · simp only [Act.put, sA, sB, sC, i64_w]; rfl
          refine pu 18 (some 69) ?_ HT_ rfl rfl (by kernel_rfl) (fun _ _ _ h => h) (Or.inl ⟨by rfl, ?_⟩) ?_ ?_ ?_
          rotate_left
          · intro w'; go_simp; with_reducible rfl
          rotate_left
          · simp only [Act.put, sA, sB, sC, i64_w]; rfl
          refine pu 19 (some 70) ?_ HT_ rfl rfl (by kernel_rfl) (fun _ _ _ h => h) (Or.inl ⟨by rfl, ?_⟩) ?_ ?_ ?_
          rotate_left
          · intro w'; go_simp; with_reducible rfl
          rotate_left
          · simp only [Act.put, sA, sB, sC, i64_w]; rfl
          refine pu 20 (some 71) ?_ HT_ rfl rfl (by kernel_rfl) (fun _ _ _ h => h) (Or.inl ⟨by rfl, ?_⟩) ?_ ?_ ?_
          rotate_left
          · intro w'; go_simp; with_reducible rfl
          rotate_left
          · simp only [Act.put, sA, sB, sC, i64_w]; rfl
          refine pu 22 (some 73) ?_ HT_ rfl rfl (by kernel_rfl) (fun _ _ _ h => h) (Or.inl ⟨by rfl, ?_⟩) ?_ ?_ ?_
          rotate_left
          · intro w'; go_simp; with_reducible rfl
          rotate_left
          · simp only [Act.put, sA, sB, sC, i64_w]; rfl
          refine pu 23 (some 74) ?_ HT_ rfl rfl (by kernel_rfl) (fun _ _ _ h => h) (Or.inl ⟨by rfl, ?_⟩) ?_ ?_ ?_
          rotate_left
          · intro w'; go_simp; with_reducible rfl
          rotate_left
          · simp only [Act.put, sA, sB, sC, i64_w]; rfl
          refine pu 24 (some 75) ?_ HT_ rfl rfl (by kernel_rfl) (fun _ _ _ h => h) (Or.inl ⟨by rfl, ?_⟩) ?_ ?_ ?_
          rotate_left
          · intro w'; go_simp; with_reducible rfl
          rotate_left
          · simp only [Act.put, sA, sB, sC, i64_w]; rfl
          refine pu 25 (some 76) ?_ HT_ rfl rfl (by kernel_rfl) (fun _ _ _ h => h) (Or.inl ⟨by rfl, ?_⟩) ?_ ?_ ?_
          rotate_left
          · intro w'; go_simp; with_reducible rfl
          rotate_left
          · simp only [Act.put, sA, sB, sC, i64_w]; rfl
          refine pu 26 (some 77) ?_ HT_ rfl rfl (by kernel_rfl) (fun _ _ _ h => h) (Or.inl ⟨by rfl, ?_⟩) ?_ ?_ ?_
          rotate_left
          · intro w'; go_simp; with_reducible rfl
          rotate_left
          · simp only [Act.put, sA, sB, sC, i64_w]; rfl
          refine tk 21 (some 72) ?_ HT_ HW_ rfl rfl (by kernel_rfl) (fun _ _ _ h => h) (Or.inl ⟨by rfl, ?_⟩) hHeld ?_ ?_ ?_
          rotate_left
          · rintro w' ⟨s0, s1, s2⟩; go_simp; with_reducible rfl
          rotate_left
          · simp only [Act.put, sA, sB, sC, i64_w]; rfl
          refine tk 27 (some 78) ?_ HT_ HW_ rfl rfl (by kernel_rfl) (fun _ _ _ h => h) (Or.inl ⟨by rfl, ?_⟩) hHeld ?_ ?_ ?_
          rotate_left
          · rintro w' ⟨s0, s1, s2⟩; go_simp; with_reducible rfl
          rotate_left
          · simp only [Act.put, sA, sB, sC, i64_w]; rfl
          refine pu 28 (some 79) ?_ HT_ rfl rfl (by kernel_rfl) (fun _ _ _ h => h) (Or.inl ⟨by rfl, ?_⟩) ?_ ?_ ?_
          rotate_left
          · intro w'; go_simp; with_reducible rfl
          rotate_left
          · simp only [Act.put, sA, sB, sC, i64_w]; rfl
          refine pu 29 (some 80) ?_ HT_ rfl rfl (by kernel_rfl) (fun _ _ _ h => h) (Or.inl ⟨by rfl, ?_⟩) ?_ ?_ ?_
          rotate_left
          · intro w'; go_simp; with_reducible rfl
          rotate_left
          · simp only [Act.put, sA, sB, sC, i64_w]; rfl
          refine pu 30 (some 81) ?_ HT_ rfl rfl (by kernel_rfl) (fun _ _ _ h => h) (Or.inl ⟨by rfl, ?_⟩) ?_ ?_ ?_
          rotate_left
          · intro w'; go_simp; with_reducible rfl
          rotate_left
          · simp only [Act.put, sA, sB, sC, i64_w]; rfl
          refine pu 31 (some 82) ?_ HT_ rfl rfl (by kernel_rfl) (fun _ _ _ h => h) (Or.inl ⟨by rfl, ?_⟩) ?_ ?_ ?_
          rotate_left
          · intro w'; go_simp; with_reducible rfl
          rotate_left
          · simp only [Act.put, sA, sB, sC, i64_w]; rfl
          refine pu 32 (some 83) ?_ HT_ rfl rfl (by kernel_rfl) (fun _ _ _ h => h) (Or.inl ⟨by rfl, ?_⟩) ?_ ?_ ?_
          rotate_left
          · intro w'; go_simp; with_reducible rfl
          rotate_left
          · simp only [Act.put, sA, sB, sC, i64_w]; rfl
          refine pu 33 (some 84) ?_ HT_ rfl rfl (by kernel_rfl) (fun _ _ _ h => h) (Or.inl ⟨by rfl, ?_⟩) ?_ ?_ ?_
          rotate_left
          · intro w'; go_simp; with_reducible rfl
          rotate_left
          · simp only [Act.put, sA, sB, sC, i64_w]; rfl
          refine pu 34 (some 85) ?_ HT_ rfl rfl (by kernel_rfl) (fun _ _ _ h => h) (Or.inl ⟨by rfl, ?_⟩) ?_ ?_ ?_
          rotate_left
          · intro w'; go_simp; with_reducible rfl
          rotate_left
          · simp only [Act.put, sA, sB, sC, i64_w]; rfl
          refine pu 35 (some 86) ?_ HT_ rfl rfl (by kernel_rfl) (fun _ _ _ h => h) (Or.inl ⟨by rfl, ?_⟩) ?_ ?_ ?_
          rotate_left
          · intro w'; go_simp; with_reducible rfl
          rotate_left
          · simp only [Act.put, sA, sB, sC, i64_w]; rfl
          refine pu 37 (some 88) ?_ HT_ rfl rfl (by kernel_rfl) (fun _ _ _ h => h) (Or.inl ⟨by rfl, ?_⟩) ?_ ?_ ?_
          rotate_left
          · intro w'; go_simp; with_reducible rfl
          rotate_left
          · simp only [Act.put, sA, sB, sC, i64_w]; rfl
          refine tk 36 (some 87) ?_ HT_ HW_ rfl rfl (by kernel_rfl) (fun _ _ _ h => h) (Or.inl ⟨by rfl, ?_⟩) hHeld ?_ ?_ ?_
          rotate_left
          · rintro w' ⟨s0, s1, s2⟩; go_simp; with_reducible rfl
          rotate_left
          · simp only [Act.put, sA, sB, sC, i64_w]; rfl
          refine pu 38 (some 89) ?_ HT_ rfl rfl (by kernel_rfl) (fun _ _ _ h => h) (Or.inl ⟨by rfl, ?_⟩) ?_ ?_ ?_
          rotate_left
          · intro w'; go_simp; with_reducible rfl
          rotate_left
          · simp only [Act.put, sA, sB, sC, i64_w]; rfl
          refine pu 39 (some 90) ?_ HT_ rfl rfl (by kernel_rfl) (fun _ _ _ h => h) (Or.inl ⟨by rfl, ?_⟩) ?_ ?_ ?_
          rotate_left
          · intro w'; go_simp; with_reducible rfl
          rotate_left
          · simp only [Act.put, sA, sB, sC, i64_w]; rfl
          refine done_ (done_of HT_.out (by kernel_rfl)) ?_
          go_wp2
          go_roundw
          case rel => exact ⟨k + 1 + 1, by go_num, by rw [HIN.out], by omega, HRr.out.below hBc, HSr.out.below hBc, blk_below HAr.out hBc, HBr.out.trans (hBc.mono HBr.out.size)⟩
          case measure => simp [natV]; omega
    · obtain rfl : i = S.length := by omega
      have e0 : decide (S.length < S.length) = false := by simp
      have e1 : decide ((S.length : Int) < (S.length : Int)) = false := by simp
      have htl : S.take S.length = S := List.take_length
      have hinT := HIn.out T
      obtain ⟨I0, hI0⟩ : ∃ I0, inS S T = I0 := ⟨_, rfl⟩
      rw [htl, hI0]
      rw [hI0] at hinT
      have HIT := Aside0.mk hinT
      clear hRow htl hI0 hinT
      by_cases hTn : T < 1099511627776
      · have eT : decide (T < 1099511627776) = true := by simp; omega
        by_cases hTF : F ≤ T
        · have eF : decide (F ≤ T) = true := by simp; omega
          have hf5 : fitsL L T (addT T M) W = I0 := by
            rw [Bool.eq_iff_iff, fits_good HL.out ⟨hTr.1, hTn⟩ HM.out, HIT.out]
            exact ⟨fun h => ⟨hTF, h⟩, fun h => h.2⟩
          have ho5 := of_calls T M
          rw [clT_id hTr] at ho5
          obtain ⟨T5, hT5⟩ : ∃ T5, addT T M = T5 := ⟨_, rfl⟩
          rw [hT5] at ho5 hf5
          have hf5c := fun w' hS => fits_calls p q cc L T T5 W w' hS HL.out
          rw [hf5] at hf5c
          have HO5 := Aside0.mk ho5
          have HF5 := Aside0.mk hf5c
          have ebb : (I0 != I0) = false := by simp
          clear ho5 hf5 hf5c hT5 hTn hTF
          go_wp2
          have HSrd := Aside0.mk (HSr.out.below (below_drew1 (Below.refl _ _)))
          have HArd := Aside0.mk (blk_drew HAr.out)
          have HBrd := Aside0.mk (below_drew1 HBr.out)
          have gWrd : wr.drew.cell? ⟨w.heap.size, 2, none⟩ = some (.int .i64 W) := gWr
          have gTrd : wr.drew.cell? ⟨w.heap.size, 3, none⟩ = some (.int .i64 ta) := gTr
          have gUrd : wr.drew.cell? ⟨w.heap.size, 4, none⟩ = some (.int .i64 tb) := gUr
          refine start_ (n := 18) (S := fun w' => w'.cell? ⟨w.heap.size, 2, none⟩ = some (.int .i64 W) ∧ w'.cell? ⟨w.heap.size, 3, none⟩ = some (.int .i64 ta) ∧ w'.cell? ⟨w.heap.size, 4, none⟩ = some (.int .i64 tb)) (ds := []) #[false, false, false, false, false, false, false, false, false, false, false, false, false, false, false, false, false, false] (by kernel_rfl) rfl rfl ⟨gWr, gTr, gUr⟩ (fun hHeld => ?_); refine with_tabW spansRb.tab13 spansRb.bits13 (fun HT_ HW_ => ?_)
          refine pu 0 (some 91) ?_ HT_ rfl rfl (by kernel_rfl) (fun _ _ _ h => h) (Or.inl ⟨by rfl, ?_⟩) ?_ ?_ ?_
          rotate_left
          · intro w'; go_simp; with_reducible rfl
          rotate_left
          · simp only [Act.put, sA, sB, sC, i64_w]; rfl
          refine pu 1 (some 92) ?_ HT_ rfl rfl (by kernel_rfl) (fun _ _ _ h => h) (Or.inl ⟨by rfl, ?_⟩) ?_ ?_ ?_
          rotate_left
          · intro w'; go_simp; with_reducible rfl
          rotate_left
          · simp only [Act.put, sA, sB, sC, i64_w]; rfl
          refine pu 2 (some 93) ?_ HT_ rfl rfl (by kernel_rfl) (fun _ _ _ h => h) (Or.inl ⟨by rfl, ?_⟩) ?_ ?_ ?_
          rotate_left
          · intro w'; go_simp; with_reducible rfl
          rotate_left
          · simp only [Act.put, sA, sB, sC, i64_w]; rfl
          refine pu 3 (some 94) ?_ HT_ rfl rfl (by kernel_rfl) (fun _ _ _ h => h) (Or.inl ⟨by rfl, ?_⟩) ?_ ?_ ?_
          rotate_left
          · intro w'; go_simp; with_reducible rfl
          rotate_left
          · simp only [Act.put, sA, sB, sC, i64_w]; rfl
          refine pu 4 (some 95) ?_ HT_ rfl rfl (by kernel_rfl) (fun _ _ _ h => h) (Or.inl ⟨by rfl, ?_⟩) ?_ ?_ ?_
          rotate_left
          · intro w'; go_simp; with_reducible rfl
          rotate_left
          · simp only [Act.put, sA, sB, sC, i64_w]; rfl
          refine pu 5 (some 96) ?_ HT_ rfl rfl (by kernel_rfl) (fun _ _ _ h => h) (Or.inl ⟨by rfl, ?_⟩) ?_ ?_ ?_
          rotate_left
          · intro w'; go_simp; with_reducible rfl
          rotate_left
          · simp only [Act.put, sA, sB, sC, i64_w]; rfl
          refine pu 6 (some 97) ?_ HT_ rfl rfl (by kernel_rfl) (fun _ _ _ h => h) (Or.inl ⟨by rfl, ?_⟩) ?_ ?_ ?_
          rotate_left
          · intro w'; go_simp; with_reducible rfl
          rotate_left
          · simp only [Act.put, sA, sB, sC, i64_w]; rfl
          refine pu 7 (some 98) ?_ HT_ rfl rfl (by kernel_rfl) (fun _ _ _ h => h) (Or.inl ⟨by rfl, ?_⟩) ?_ ?_ ?_
          rotate_left
          · intro w'; go_simp; with_reducible rfl
          rotate_left
          · simp only [Act.put, sA, sB, sC, i64_w]; rfl
          refine pu 8 (some 99) ?_ HT_ rfl rfl (by kernel_rfl) (fun _ _ _ h => h) (Or.inl ⟨by rfl, ?_⟩) ?_ ?_ ?_
          rotate_left
          · intro w'; go_simp; with_reducible rfl
          rotate_left
          · simp only [Act.put, sA, sB, sC, i64_w]; rfl
          refine pu 9 (some 100) ?_ HT_ rfl rfl (by kernel_rfl) (fun _ _ _ h => h) (Or.inl ⟨by rfl, ?_⟩) ?_ ?_ ?_
          rotate_left
          · intro w'; go_simp; with_reducible rfl
          rotate_left
          · simp only [Act.put, sA, sB, sC, i64_w]; rfl
          refine pu 10 (some 101) ?_ HT_ rfl rfl (by kernel_rfl) (fun _ _ _ h => h) (Or.inl ⟨by rfl, ?_⟩) ?_ ?_ ?_
          rotate_left
          · intro w'; go_simp; with_reducible rfl
          rotate_left
          · simp only [Act.put, sA, sB, sC, i64_w]; rfl
          refine pu 12 (some 103) ?_ HT_ rfl rfl (by kernel_rfl) (fun _ _ _ h => h) (Or.inl ⟨by rfl, ?_⟩) ?_ ?_ ?_
          rotate_left
          · intro w'; go_simp; with_reducible rfl
          rotate_left
          · simp only [Act.put, sA, sB, sC, i64_w]; rfl
          refine tk 13 (some 104) ?_ HT_ HW_ rfl rfl (by kernel_rfl) (fun _ _ _ h => h) (Or.inl ⟨by rfl, ?_⟩) hHeld ?_ ?_ ?_
          rotate_left
          · rintro w' ⟨s0, s1, s2⟩; go_simp; with_reducible rfl
          rotate_left
          · simp only [Act.put, sA, sB, sC, i64_w]; rfl
          refine on 11 (some 102) HT_ rfl rfl (by kernel_rfl) (by decide) (fun K hK => ?_)
          refine goes_ Try.func11 (by kernel_rfl) rfl #[.int .i64 T, .int .i64 M] (by rfl) rfl rfl (by (try simp only [List.map_toArray, List.map_cons, List.map_nil]); first | done | rfl | (simp only [List.length_drop, List.length_take]; rfl)) ?_
          with_reducible refine (HO5.out _).mono ?_
          rintro ev w21 ⟨rfl, hb21⟩
          have HS21 := Aside0.mk (HSrd.out.below hb21)
          have nA21 := blk_below HArd.out hb21
          have HA21 := Aside0.mk nA21
          have gW21 : w21.cell? ⟨w.heap.size, 2, none⟩ = some (.int .i64 W) := (blk_cell nA21 2).trans rfl
          have gT21 : w21.cell? ⟨w.heap.size, 3, none⟩ = some (.int .i64 ta) := (blk_cell nA21 3).trans rfl
          have gU21 : w21.cell? ⟨w.heap.size, 4, none⟩ = some (.int .i64 tb) := (blk_cell nA21 4).trans rfl
          have HB21 := Aside0.mk (below_step HBrd.out hb21)
          clear nA21 hb21
          refine ⟨_, rfl, ?_⟩
          refine hK.out _ _ ⟨gW21, gT21, gU21⟩ (fun hHeld => ?_)
          clear hK K
          refine norm_ (a' := ?_) ?_ ?_
          rotate_left
          · show Act.put _ (some 102) _ = _; simp only [Act.put, sA, sB, sC, i64_w]; rfl
          refine on 14 (some 105) HT_ rfl rfl (by kernel_rfl) (by decide) (fun K hK => ?_)
          refine goes_ Try.func10 (by kernel_rfl) rfl #[.pointer (some ⟨p, 0, none⟩), .agg #[.int .i64 T, .int .i64 T5], .int .i64 W] (by rfl) rfl rfl (by (try simp only [List.map_toArray, List.map_cons, List.map_nil]); first | done | rfl | (simp only [List.length_drop, List.length_take]; rfl)) ?_
          with_reducible refine (HF5.out _ HS21.out).mono ?_
          rintro ev w22 ⟨rfl, hb22⟩
          have HS22 := Aside0.mk (HS21.out.below hb22)
          have nA22 := blk_below HA21.out hb22
          have HA22 := Aside0.mk nA22
          have gW22 : w22.cell? ⟨w.heap.size, 2, none⟩ = some (.int .i64 W) := (blk_cell nA22 2).trans rfl
          have gT22 : w22.cell? ⟨w.heap.size, 3, none⟩ = some (.int .i64 ta) := (blk_cell nA22 3).trans rfl
          have gU22 : w22.cell? ⟨w.heap.size, 4, none⟩ = some (.int .i64 tb) := (blk_cell nA22 4).trans rfl
          have HB22 := Aside0.mk (below_step HB21.out hb22)
          clear nA22 hb22
          refine ⟨_, rfl, ?_⟩
          refine hK.out _ _ ⟨gW22, gT22, gU22⟩ (fun hHeld => ?_)
          clear hK K
          refine norm_ (a' := ?_) ?_ ?_
          rotate_left
          · show Act.put _ (some 105) _ = _; simp only [Act.put, sA, sB, sC, i64_w]; rfl
          refine pu 15 (some 106) ?_ HT_ rfl rfl (by kernel_rfl) (fun _ _ _ h => h) (Or.inl ⟨by rfl, ?_⟩) ?_ ?_ ?_
          rotate_left
          · intro w'; go_simp; with_reducible rfl
          rotate_left
          · simp only [Act.put, sA, sB, sC, i64_w]; rfl
          refine pu 16 (some 107) ?_ HT_ rfl rfl (by kernel_rfl) (fun _ _ _ h => h) (Or.inl ⟨by rfl, ?_⟩) ?_ ?_ ?_
          rotate_left
          · intro w'; go_simp; with_reducible rfl
          rotate_left
          · simp only [Act.put, sA, sB, sC, i64_w]; rfl
          refine pu 17 (some 108) ?_ HT_ rfl rfl (by kernel_rfl) (fun _ _ _ h => h) (Or.inl ⟨by rfl, ?_⟩) ?_ ?_ ?_
          rotate_left
          · intro w'; go_simp; with_reducible rfl
          rotate_left
          · simp only [Act.put, sA, sB, sC, i64_w]; rfl
          refine done_ (done_of HT_.out (by kernel_rfl)) ?_
          cases ok with
          | false =>
            have hlv := HLs.out.1 rfl
            subst hlv
            go_wp2_with (go_at_call 22; refine (HLat.out _ _ (FreeIs.made HS22.out)).mono ?_; rintro ev w23 ⟨rfl, hb23⟩; have HS23 := Aside0.mk (HS22.out.below hb23); have nA23 := blk_below HA22.out hb23; have HA23 := Aside0.mk nA23; have gW23 : w23.cell? ⟨w.heap.size, 2, none⟩ = some (.int .i64 W) := (blk_cell nA23 2).trans rfl; have gT23 : w23.cell? ⟨w.heap.size, 3, none⟩ = some (.int .i64 ta) := (blk_cell nA23 3).trans rfl; have gU23 : w23.cell? ⟨w.heap.size, 4, none⟩ = some (.int .i64 tb) := (blk_cell nA23 4).trans rfl; have HB23 := Aside0.mk (below_step HB22.out hb23); clear nA23 hb23)
            have HS23d := Aside0.mk (HS23.out.below (below_drew1 (Below.refl _ _)))
            have HA23d := Aside0.mk (blk_drew HA23.out)
            have HB23d := Aside0.mk (below_drew1 HB23.out)
            have gW23d : w23.drew.cell? ⟨w.heap.size, 2, none⟩ = some (.int .i64 W) := gW23
            have gT23d : w23.drew.cell? ⟨w.heap.size, 3, none⟩ = some (.int .i64 ta) := gT23
            have gU23d : w23.drew.cell? ⟨w.heap.size, 4, none⟩ = some (.int .i64 tb) := gU23
            refine start_ (n := 18) (S := fun w' => w'.cell? ⟨w.heap.size, 2, none⟩ = some (.int .i64 W) ∧ w'.cell? ⟨w.heap.size, 3, none⟩ = some (.int .i64 ta) ∧ w'.cell? ⟨w.heap.size, 4, none⟩ = some (.int .i64 tb)) (ds := []) #[false, false, false, false, false, false, false, false, false, false, false, false, false, false, false, false, false, false] (by kernel_rfl) rfl rfl ⟨gW23, gT23, gU23⟩ (fun hHeld => ?_); refine with_tabW spansRc.tab16 spansRc.bits16 (fun HT_ HW_ => ?_)
            refine pu 0 (some 119) ?_ HT_ rfl rfl (by kernel_rfl) (fun _ _ _ h => h) (Or.inl ⟨by rfl, ?_⟩) ?_ ?_ ?_
            rotate_left
            · intro w'; go_simp; with_reducible rfl
            rotate_left
            · simp only [Act.put, sA, sB, sC, i64_w]; rfl
            refine pu 1 (some 120) ?_ HT_ rfl rfl (by kernel_rfl) (fun _ _ _ h => h) (Or.inl ⟨by rfl, ?_⟩) ?_ ?_ ?_
            rotate_left
            · intro w'; go_simp; with_reducible rfl
            rotate_left
            · simp only [Act.put, sA, sB, sC, i64_w]; rfl
            refine pu 2 (some 121) undef HT_ rfl rfl (by kernel_rfl) (fun _ _ _ h => h) (Or.inr ⟨by rfl, rfl⟩) ?_ ?_ ?_
            rotate_left
            · simp only [Act.put, sA, sB, sC, i64_w]; rfl
            refine pu 3 (some 122) undef HT_ rfl rfl (by kernel_rfl) (fun _ _ _ h => h) (Or.inr ⟨by rfl, rfl⟩) ?_ ?_ ?_
            rotate_left
            · simp only [Act.put, sA, sB, sC, i64_w]; rfl
            refine pu 4 (some 123) undef HT_ rfl rfl (by kernel_rfl) (fun _ _ _ h => h) (Or.inr ⟨by rfl, rfl⟩) ?_ ?_ ?_
            rotate_left
            · simp only [Act.put, sA, sB, sC, i64_w]; rfl
            refine pu 5 (some 124) undef HT_ rfl rfl (by kernel_rfl) (fun _ _ _ h => h) (Or.inr ⟨by rfl, rfl⟩) ?_ ?_ ?_
            rotate_left
            · simp only [Act.put, sA, sB, sC, i64_w]; rfl
            refine pu 6 (some 125) undef HT_ rfl rfl (by kernel_rfl) (fun _ _ _ h => h) (Or.inr ⟨by rfl, rfl⟩) ?_ ?_ ?_
            rotate_left
            · simp only [Act.put, sA, sB, sC, i64_w]; rfl
            refine pu 7 (some 126) undef HT_ rfl rfl (by kernel_rfl) (fun _ _ _ h => h) (Or.inr ⟨by rfl, rfl⟩) ?_ ?_ ?_
            rotate_left
            · simp only [Act.put, sA, sB, sC, i64_w]; rfl
            refine pu 8 (some 127) undef HT_ rfl rfl (by kernel_rfl) (fun _ _ _ h => h) (Or.inr ⟨by rfl, rfl⟩) ?_ ?_ ?_
            rotate_left
            · simp only [Act.put, sA, sB, sC, i64_w]; rfl
            refine pu 9 (some 128) undef HT_ rfl rfl (by kernel_rfl) (fun _ _ _ h => h) (Or.inr ⟨by rfl, rfl⟩) ?_ ?_ ?_
            rotate_left
            · simp only [Act.put, sA, sB, sC, i64_w]; rfl
            refine pu 10 (some 129) undef HT_ rfl rfl (by kernel_rfl) (fun _ _ _ h => h) (Or.inr ⟨by rfl, rfl⟩) ?_ ?_ ?_
            rotate_left
            · simp only [Act.put, sA, sB, sC, i64_w]; rfl
            refine pu 11 (some 130) undef HT_ rfl rfl (by kernel_rfl) (fun _ _ _ h => h) (Or.inr ⟨by rfl, rfl⟩) ?_ ?_ ?_
            rotate_left
            · simp only [Act.put, sA, sB, sC, i64_w]; rfl
            refine pu 12 (some 131) undef HT_ rfl rfl (by kernel_rfl) (fun _ _ _ h => h) (Or.inr ⟨by rfl, rfl⟩) ?_ ?_ ?_
            rotate_left
            · simp only [Act.put, sA, sB, sC, i64_w]; rfl
            refine pu 13 (some 132) undef HT_ rfl rfl (by kernel_rfl) (fun _ _ _ h => h) (Or.inr ⟨by rfl, rfl⟩) ?_ ?_ ?_
            rotate_left
            · simp only [Act.put, sA, sB, sC, i64_w]; rfl
            refine pu 14 (some 133) undef HT_ rfl rfl (by kernel_rfl) (fun _ _ _ h => h) (Or.inr ⟨by rfl, rfl⟩) ?_ ?_ ?_
            rotate_left
            · simp only [Act.put, sA, sB, sC, i64_w]; rfl
            refine pu 15 (some 134) undef HT_ rfl rfl (by kernel_rfl) (fun _ _ _ h => h) (Or.inr ⟨by rfl, rfl⟩) ?_ ?_ ?_
            rotate_left
            · simp only [Act.put, sA, sB, sC, i64_w]; rfl
            refine pu 16 (some 135) undef HT_ rfl rfl (by kernel_rfl) (fun _ _ _ h => h) (Or.inr ⟨by rfl, rfl⟩) ?_ ?_ ?_
            rotate_left
            · simp only [Act.put, sA, sB, sC, i64_w]; rfl
            refine pu 17 (some 136) ?_ HT_ rfl rfl (by kernel_rfl) (fun _ _ _ h => h) (Or.inl ⟨by rfl, ?_⟩) ?_ ?_ ?_
            rotate_left
            · intro w'; go_simp; with_reducible rfl
            rotate_left
            · simp only [Act.put, sA, sB, sC, i64_w]; rfl
            refine done_ (done_of HT_.out (by kernel_rfl)) ?_
            go_wp2
            have HS23dd := Aside0.mk (HS23d.out.below (below_drew1 (Below.refl _ _)))
            have HA23dd := Aside0.mk (blk_drew HA23d.out)
            have HB23dd := Aside0.mk (below_drew1 HB23d.out)
            have gW23dd : w23.drew.drew.cell? ⟨w.heap.size, 2, none⟩ = some (.int .i64 W) := gW23d
            have gT23dd : w23.drew.drew.cell? ⟨w.heap.size, 3, none⟩ = some (.int .i64 ta) := gT23d
            have gU23dd : w23.drew.drew.cell? ⟨w.heap.size, 4, none⟩ = some (.int .i64 tb) := gU23d
            refine start_ (n := 23) (S := fun w' => w'.cell? ⟨w.heap.size, 2, none⟩ = some (.int .i64 W) ∧ w'.cell? ⟨w.heap.size, 3, none⟩ = some (.int .i64 ta) ∧ w'.cell? ⟨w.heap.size, 4, none⟩ = some (.int .i64 tb)) (ds := []) #[false, false, false, false, false, false, false, false, false, false, false, false, false, false, false, false, false, false, false, false, false, false, false] (by kernel_rfl) rfl rfl ⟨gW23d, gT23d, gU23d⟩ (fun hHeld => ?_); refine with_tabW spansRd.tab18 spansRd.bits18 (fun HT_ HW_ => ?_)
            refine pu 0 (some 137) ?_ HT_ rfl rfl (by kernel_rfl) (fun _ _ _ h => h) (Or.inl ⟨by rfl, ?_⟩) ?_ ?_ ?_
            rotate_left
            · intro w'; go_simp; with_reducible rfl
            rotate_left
            · simp only [Act.put, sA, sB, sC, i64_w]; rfl
            refine pu 1 (some 138) ?_ HT_ rfl rfl (by kernel_rfl) (fun _ _ _ h => h) (Or.inl ⟨by rfl, ?_⟩) ?_ ?_ ?_
            rotate_left
            · intro w'; go_simp; with_reducible rfl
            rotate_left
            · simp only [Act.put, sA, sB, sC, i64_w]; rfl
            refine pu 2 (some 139) undef HT_ rfl rfl (by kernel_rfl) (fun _ _ _ h => h) (Or.inr ⟨by rfl, rfl⟩) ?_ ?_ ?_
            rotate_left
            · simp only [Act.put, sA, sB, sC, i64_w]; rfl
            refine pu 3 (some 140) undef HT_ rfl rfl (by kernel_rfl) (fun _ _ _ h => h) (Or.inr ⟨by rfl, rfl⟩) ?_ ?_ ?_
            rotate_left
            · simp only [Act.put, sA, sB, sC, i64_w]; rfl
            refine pu 4 (some 141) undef HT_ rfl rfl (by kernel_rfl) (fun _ _ _ h => h) (Or.inr ⟨by rfl, rfl⟩) ?_ ?_ ?_
            rotate_left
            · simp only [Act.put, sA, sB, sC, i64_w]; rfl
            refine pu 5 (some 142) ?_ HT_ rfl rfl (by kernel_rfl) (fun _ _ _ h => h) (Or.inl ⟨by rfl, ?_⟩) ?_ ?_ ?_
            rotate_left
            · intro w'; go_simp; with_reducible rfl
            rotate_left
            · simp only [Act.put, sA, sB, sC, i64_w]; rfl
            refine pu 6 (some 143) ?_ HT_ rfl rfl (by kernel_rfl) (fun _ _ _ h => h) (Or.inl ⟨by rfl, ?_⟩) ?_ ?_ ?_
            rotate_left
            · intro w'; go_simp; with_reducible rfl
            rotate_left
            · simp only [Act.put, sA, sB, sC, i64_w]; rfl
            refine pu 7 (some 144) undef HT_ rfl rfl (by kernel_rfl) (fun _ _ _ h => h) (Or.inr ⟨by rfl, rfl⟩) ?_ ?_ ?_
            rotate_left
            · simp only [Act.put, sA, sB, sC, i64_w]; rfl
            refine pu 8 (some 145) undef HT_ rfl rfl (by kernel_rfl) (fun _ _ _ h => h) (Or.inr ⟨by rfl, rfl⟩) ?_ ?_ ?_
            rotate_left
            · simp only [Act.put, sA, sB, sC, i64_w]; rfl
            refine pu 9 (some 146) undef HT_ rfl rfl (by kernel_rfl) (fun _ _ _ h => h) (Or.inr ⟨by rfl, rfl⟩) ?_ ?_ ?_
            rotate_left
            · simp only [Act.put, sA, sB, sC, i64_w]; rfl
            refine pu 10 (some 147) undef HT_ rfl rfl (by kernel_rfl) (fun _ _ _ h => h) (Or.inr ⟨by rfl, rfl⟩) ?_ ?_ ?_
            rotate_left
            · simp only [Act.put, sA, sB, sC, i64_w]; rfl
            refine pu 11 (some 148) undef HT_ rfl rfl (by kernel_rfl) (fun _ _ _ h => h) (Or.inr ⟨by rfl, rfl⟩) ?_ ?_ ?_
            rotate_left
            · simp only [Act.put, sA, sB, sC, i64_w]; rfl
            refine pu 12 (some 149) ?_ HT_ rfl rfl (by kernel_rfl) (fun _ _ _ h => h) (Or.inl ⟨by rfl, ?_⟩) ?_ ?_ ?_
            rotate_left
            · intro w'; go_simp; with_reducible rfl
            rotate_left
            · simp only [Act.put, sA, sB, sC, i64_w]; rfl
            refine pu 13 (some 150) ?_ HT_ rfl rfl (by kernel_rfl) (fun _ _ _ h => h) (Or.inl ⟨by rfl, ?_⟩) ?_ ?_ ?_
            rotate_left
            · intro w'; go_simp; with_reducible rfl
            rotate_left
            · simp only [Act.put, sA, sB, sC, i64_w]; rfl
            refine pu 14 (some 151) undef HT_ rfl rfl (by kernel_rfl) (fun _ _ _ h => h) (Or.inr ⟨by rfl, rfl⟩) ?_ ?_ ?_
            rotate_left
            · simp only [Act.put, sA, sB, sC, i64_w]; rfl
            refine pu 15 (some 152) undef HT_ rfl rfl (by kernel_rfl) (fun _ _ _ h => h) (Or.inr ⟨by rfl, rfl⟩) ?_ ?_ ?_
            rotate_left
            · simp only [Act.put, sA, sB, sC, i64_w]; rfl
            refine pu 16 (some 153) undef HT_ rfl rfl (by kernel_rfl) (fun _ _ _ h => h) (Or.inr ⟨by rfl, rfl⟩) ?_ ?_ ?_
            rotate_left
            · simp only [Act.put, sA, sB, sC, i64_w]; rfl
            refine pu 17 (some 154) undef HT_ rfl rfl (by kernel_rfl) (fun _ _ _ h => h) (Or.inr ⟨by rfl, rfl⟩) ?_ ?_ ?_
            rotate_left
            · simp only [Act.put, sA, sB, sC, i64_w]; rfl
            refine pu 18 (some 155) undef HT_ rfl rfl (by kernel_rfl) (fun _ _ _ h => h) (Or.inr ⟨by rfl, rfl⟩) ?_ ?_ ?_
            rotate_left
            · simp only [Act.put, sA, sB, sC, i64_w]; rfl
            refine pu 19 (some 156) undef HT_ rfl rfl (by kernel_rfl) (fun _ _ _ h => h) (Or.inr ⟨by rfl, rfl⟩) ?_ ?_ ?_
            rotate_left
            · simp only [Act.put, sA, sB, sC, i64_w]; rfl
            refine pu 20 (some 157) undef HT_ rfl rfl (by kernel_rfl) (fun _ _ _ h => h) (Or.inr ⟨by rfl, rfl⟩) ?_ ?_ ?_
            rotate_left
            · simp only [Act.put, sA, sB, sC, i64_w]; rfl
            refine pu 21 (some 158) undef HT_ rfl rfl (by kernel_rfl) (fun _ _ _ h => h) (Or.inr ⟨by rfl, rfl⟩) ?_ ?_ ?_
            rotate_left
            · simp only [Act.put, sA, sB, sC, i64_w]; rfl
            refine pu 22 (some 159) ?_ HT_ rfl rfl (by kernel_rfl) (fun _ _ _ h => h) (Or.inl ⟨by rfl, ?_⟩) ?_ ?_ ?_
            rotate_left
            · intro w'; go_simp; with_reducible rfl
            rotate_left
            · simp only [Act.put, sA, sB, sC, i64_w]; rfl
            refine done_ (done_of HT_.out (by kernel_rfl)) ?_
            go_wp2_with (go_at_call 17; refine (one11_calls _).mono ?_; rintro ev w50 ⟨rfl, hb50⟩)
            go_ret
            exact ⟨rfl, below_step HB23dd.out hb50⟩
          | true =>
            obtain ⟨hlr, hlh, hlg, hln⟩ := HLs.out.2 rfl
            have eh1 : (decide (clT ta ≤ lv) && decide (lv < clT tb)) = true := by simp; omega
            have hh1 := holds_any ta tb lv ⟨hlr.1, by omega⟩
            rw [eh1] at hh1
            have HH1 := Aside0.mk hh1
            have ho6 := of_calls lv M
            rw [clT_id ⟨hlr.1, by omega⟩] at ho6
            have hf6 := (fits_good HL.out hlr HM.out).2 hlg
            obtain ⟨T6, hT6⟩ : ∃ T6, addT lv M = T6 := ⟨_, rfl⟩
            rw [hT6] at ho6 hf6
            have hf6c := fun w' hS => fits_calls p q cc L lv T6 W w' hS HL.out
            rw [hf6] at hf6c
            have HO6 := Aside0.mk ho6
            have HF6 := Aside0.mk hf6c
            have HLN := Aside0.mk hln
            have hwl : IntKind.i64.wrap (lv + 1) = lv + 1 := by rw [IntKind.wrap_i64]; omega
            clear hh1 ho6 hf6 hf6c hT6 hlg hln
            go_wp2_with (go_at_call 22; refine (HLat.out _ _ (FreeIs.made HS22.out)).mono ?_; rintro ev w23 ⟨rfl, hb23⟩; have HS23 := Aside0.mk (HS22.out.below hb23); have nA23 := blk_below HA22.out hb23; have HA23 := Aside0.mk nA23; have gW23 : w23.cell? ⟨w.heap.size, 2, none⟩ = some (.int .i64 W) := (blk_cell nA23 2).trans rfl; have gT23 : w23.cell? ⟨w.heap.size, 3, none⟩ = some (.int .i64 ta) := (blk_cell nA23 3).trans rfl; have gU23 : w23.cell? ⟨w.heap.size, 4, none⟩ = some (.int .i64 tb) := (blk_cell nA23 4).trans rfl; have HB23 := Aside0.mk (below_step HB22.out hb23); clear nA23 hb23)
            have HS23d := Aside0.mk (HS23.out.below (below_drew1 (Below.refl _ _)))
            have HA23d := Aside0.mk (blk_drew HA23.out)
            have HB23d := Aside0.mk (below_drew1 HB23.out)
            have gW23d : w23.drew.cell? ⟨w.heap.size, 2, none⟩ = some (.int .i64 W) := gW23
            have gT23d : w23.drew.cell? ⟨w.heap.size, 3, none⟩ = some (.int .i64 ta) := gT23
            have gU23d : w23.drew.cell? ⟨w.heap.size, 4, none⟩ = some (.int .i64 tb) := gU23
            refine start_ (n := 18) (S := fun w' => w'.cell? ⟨w.heap.size, 2, none⟩ = some (.int .i64 W) ∧ w'.cell? ⟨w.heap.size, 3, none⟩ = some (.int .i64 ta) ∧ w'.cell? ⟨w.heap.size, 4, none⟩ = some (.int .i64 tb)) (ds := []) #[false, false, false, false, false, false, false, false, false, false, false, false, false, false, false, false, false, false] (by kernel_rfl) rfl rfl ⟨gW23, gT23, gU23⟩ (fun hHeld => ?_); refine with_tabW spansRc.tab16 spansRc.bits16 (fun HT_ HW_ => ?_)
            refine pu 0 (some 119) ?_ HT_ rfl rfl (by kernel_rfl) (fun _ _ _ h => h) (Or.inl ⟨by rfl, ?_⟩) ?_ ?_ ?_
            rotate_left
            · intro w'; go_simp; with_reducible rfl
            rotate_left
            · simp only [Act.put, sA, sB, sC, i64_w]; rfl
            refine pu 1 (some 120) ?_ HT_ rfl rfl (by kernel_rfl) (fun _ _ _ h => h) (Or.inl ⟨by rfl, ?_⟩) ?_ ?_ ?_
            rotate_left
            · intro w'; go_simp; with_reducible rfl
            rotate_left
            · simp only [Act.put, sA, sB, sC, i64_w]; rfl
            refine pu 2 (some 121) ?_ HT_ rfl rfl (by kernel_rfl) (fun _ _ _ h => h) (Or.inl ⟨by rfl, ?_⟩) ?_ ?_ ?_
            rotate_left
            · intro w'; go_simp; with_reducible rfl
            rotate_left
            · simp only [Act.put, sA, sB, sC, i64_w]; rfl
            refine pu 4 (some 123) ?_ HT_ rfl rfl (by kernel_rfl) (fun _ _ _ h => h) (Or.inl ⟨by rfl, ?_⟩) ?_ ?_ ?_
            rotate_left
            · intro w'; go_simp; with_reducible rfl
            rotate_left
            · simp only [Act.put, sA, sB, sC, i64_w]; rfl
            refine tk 3 (some 122) ?_ HT_ HW_ rfl rfl (by kernel_rfl) (fun _ _ _ h => h) (Or.inl ⟨by rfl, ?_⟩) hHeld ?_ ?_ ?_
            rotate_left
            · rintro w' ⟨s0, s1, s2⟩; go_simp; with_reducible rfl
            rotate_left
            · simp only [Act.put, sA, sB, sC, i64_w]; rfl
            refine on 5 (some 124) HT_ rfl rfl (by kernel_rfl) (by decide) (fun K hK => ?_)
            refine goes_ Try.func26 (by kernel_rfl) rfl #[.agg #[.int .i64 ta, .int .i64 tb], .int .i64 lv] (by rfl) rfl rfl (by (try simp only [List.map_toArray, List.map_cons, List.map_nil]); first | done | rfl | (simp only [List.length_drop, List.length_take]; rfl)) ?_
            with_reducible refine (HH1.out _).mono ?_
            rintro ev w31 ⟨rfl, hb31⟩
            have HS31 := Aside0.mk (HS23d.out.below hb31)
            have nA31 := blk_below HA23d.out hb31
            have HA31 := Aside0.mk nA31
            have gW31 : w31.cell? ⟨w.heap.size, 2, none⟩ = some (.int .i64 W) := (blk_cell nA31 2).trans rfl
            have gT31 : w31.cell? ⟨w.heap.size, 3, none⟩ = some (.int .i64 ta) := (blk_cell nA31 3).trans rfl
            have gU31 : w31.cell? ⟨w.heap.size, 4, none⟩ = some (.int .i64 tb) := (blk_cell nA31 4).trans rfl
            have HB31 := Aside0.mk (below_step HB23d.out hb31)
            clear nA31 hb31
            refine ⟨_, rfl, ?_⟩
            refine hK.out _ _ ⟨gW31, gT31, gU31⟩ (fun hHeld => ?_)
            clear hK K
            refine norm_ (a' := ?_) ?_ ?_
            rotate_left
            · show Act.put _ (some 124) _ = _; simp only [Act.put, sA, sB, sC, i64_w]; rfl
            refine pu 6 (some 125) ?_ HT_ rfl rfl (by kernel_rfl) (fun _ _ _ h => h) (Or.inl ⟨by rfl, ?_⟩) ?_ ?_ ?_
            rotate_left
            · intro w'; go_simp; with_reducible rfl
            rotate_left
            · simp only [Act.put, sA, sB, sC, i64_w]; rfl
            refine pu 7 (some 126) ?_ HT_ rfl rfl (by kernel_rfl) (fun _ _ _ h => h) (Or.inl ⟨by rfl, ?_⟩) ?_ ?_ ?_
            rotate_left
            · intro w'; go_simp; with_reducible rfl
            rotate_left
            · simp only [Act.put, sA, sB, sC, i64_w]; rfl
            refine pu 8 (some 127) ?_ HT_ rfl rfl (by kernel_rfl) (fun _ _ _ h => h) (Or.inl ⟨by rfl, ?_⟩) ?_ ?_ ?_
            rotate_left
            · intro w'; go_simp; with_reducible rfl
            rotate_left
            · simp only [Act.put, sA, sB, sC, i64_w]; rfl
            refine pu 9 (some 128) ?_ HT_ rfl rfl (by kernel_rfl) (fun _ _ _ h => h) (Or.inl ⟨by rfl, ?_⟩) ?_ ?_ ?_
            rotate_left
            · intro w'; go_simp; with_reducible rfl
            rotate_left
            · simp only [Act.put, sA, sB, sC, i64_w]; rfl
            refine pu 10 (some 129) ?_ HT_ rfl rfl (by kernel_rfl) (fun _ _ _ h => h) (Or.inl ⟨by rfl, ?_⟩) ?_ ?_ ?_
            rotate_left
            · intro w'; go_simp; with_reducible rfl
            rotate_left
            · simp only [Act.put, sA, sB, sC, i64_w]; rfl
            refine pu 12 (some 131) ?_ HT_ rfl rfl (by kernel_rfl) (fun _ _ _ h => h) (Or.inl ⟨by rfl, ?_⟩) ?_ ?_ ?_
            rotate_left
            · intro w'; go_simp; with_reducible rfl
            rotate_left
            · simp only [Act.put, sA, sB, sC, i64_w]; rfl
            refine tk 13 (some 132) ?_ HT_ HW_ rfl rfl (by kernel_rfl) (fun _ _ _ h => h) (Or.inl ⟨by rfl, ?_⟩) hHeld ?_ ?_ ?_
            rotate_left
            · rintro w' ⟨s0, s1, s2⟩; go_simp; with_reducible rfl
            rotate_left
            · simp only [Act.put, sA, sB, sC, i64_w]; rfl
            refine on 11 (some 130) HT_ rfl rfl (by kernel_rfl) (by decide) (fun K hK => ?_)
            refine goes_ Try.func11 (by kernel_rfl) rfl #[.int .i64 lv, .int .i64 M] (by rfl) rfl rfl (by (try simp only [List.map_toArray, List.map_cons, List.map_nil]); first | done | rfl | (simp only [List.length_drop, List.length_take]; rfl)) ?_
            with_reducible refine (HO6.out _).mono ?_
            rintro ev w32 ⟨rfl, hb32⟩
            have HS32 := Aside0.mk (HS31.out.below hb32)
            have nA32 := blk_below HA31.out hb32
            have HA32 := Aside0.mk nA32
            have gW32 : w32.cell? ⟨w.heap.size, 2, none⟩ = some (.int .i64 W) := (blk_cell nA32 2).trans rfl
            have gT32 : w32.cell? ⟨w.heap.size, 3, none⟩ = some (.int .i64 ta) := (blk_cell nA32 3).trans rfl
            have gU32 : w32.cell? ⟨w.heap.size, 4, none⟩ = some (.int .i64 tb) := (blk_cell nA32 4).trans rfl
            have HB32 := Aside0.mk (below_step HB31.out hb32)
            clear nA32 hb32
            refine ⟨_, rfl, ?_⟩
            refine hK.out _ _ ⟨gW32, gT32, gU32⟩ (fun hHeld => ?_)
            clear hK K
            refine norm_ (a' := ?_) ?_ ?_
            rotate_left
            · show Act.put _ (some 130) _ = _; simp only [Act.put, sA, sB, sC, i64_w]; rfl
            refine on 14 (some 133) HT_ rfl rfl (by kernel_rfl) (by decide) (fun K hK => ?_)
            refine goes_ Try.func10 (by kernel_rfl) rfl #[.pointer (some ⟨p, 0, none⟩), .agg #[.int .i64 lv, .int .i64 T6], .int .i64 W] (by rfl) rfl rfl (by (try simp only [List.map_toArray, List.map_cons, List.map_nil]); first | done | rfl | (simp only [List.length_drop, List.length_take]; rfl)) ?_
            with_reducible refine (HF6.out _ HS32.out).mono ?_
            rintro ev w33 ⟨rfl, hb33⟩
            have HS33 := Aside0.mk (HS32.out.below hb33)
            have nA33 := blk_below HA32.out hb33
            have HA33 := Aside0.mk nA33
            have gW33 : w33.cell? ⟨w.heap.size, 2, none⟩ = some (.int .i64 W) := (blk_cell nA33 2).trans rfl
            have gT33 : w33.cell? ⟨w.heap.size, 3, none⟩ = some (.int .i64 ta) := (blk_cell nA33 3).trans rfl
            have gU33 : w33.cell? ⟨w.heap.size, 4, none⟩ = some (.int .i64 tb) := (blk_cell nA33 4).trans rfl
            have HB33 := Aside0.mk (below_step HB32.out hb33)
            clear nA33 hb33
            refine ⟨_, rfl, ?_⟩
            refine hK.out _ _ ⟨gW33, gT33, gU33⟩ (fun hHeld => ?_)
            clear hK K
            refine norm_ (a' := ?_) ?_ ?_
            rotate_left
            · show Act.put _ (some 133) _ = _; simp only [Act.put, sA, sB, sC, i64_w]; rfl
            refine pu 15 (some 134) ?_ HT_ rfl rfl (by kernel_rfl) (fun _ _ _ h => h) (Or.inl ⟨by rfl, ?_⟩) ?_ ?_ ?_
            rotate_left
            · intro w'; go_simp; with_reducible rfl
            rotate_left
            · simp only [Act.put, sA, sB, sC, i64_w]; rfl
            refine pu 16 (some 135) ?_ HT_ rfl rfl (by kernel_rfl) (fun _ _ _ h => h) (Or.inl ⟨by rfl, ?_⟩) ?_ ?_ ?_
            rotate_left
            · intro w'; go_simp; with_reducible rfl
            rotate_left
            · simp only [Act.put, sA, sB, sC, i64_w]; rfl
            refine pu 17 (some 136) ?_ HT_ rfl rfl (by kernel_rfl) (fun _ _ _ h => h) (Or.inl ⟨by rfl, ?_⟩) ?_ ?_ ?_
            rotate_left
            · intro w'; go_simp; with_reducible rfl
            rotate_left
            · simp only [Act.put, sA, sB, sC, i64_w]; rfl
            refine done_ (done_of HT_.out (by kernel_rfl)) ?_
            go_wp2
            by_cases hn1 : lv + 1 < 1099511627776
            · have en1 : decide (lv + 1 < 1099511627776) = true := by simp; omega
              by_cases hn2 : lv + 1 < clT tb
              · have eh2 : (decide (clT ta ≤ lv + 1) && decide (lv + 1 < clT tb)) = true := by simp; omega
                have hh2 := holds_any ta tb (lv + 1) ⟨by omega, by omega⟩
                rw [eh2] at hh2
                have HH2 := Aside0.mk hh2
                have ho7 := of_calls (lv + 1) M
                rw [clT_id ⟨by omega, by omega⟩] at ho7
                have hf7 : fitsL L (lv + 1) (addT (lv + 1) M) W = false := Bool.eq_false_iff.2 (fun hh => HLN.out hn1 hn2 ((fits_good HL.out ⟨by omega, hn1⟩ HM.out).1 hh))
                obtain ⟨T7, hT7⟩ : ∃ T7, addT (lv + 1) M = T7 := ⟨_, rfl⟩
                rw [hT7] at ho7 hf7
                have hf7c := fun w' hS => fits_calls p q cc L (lv + 1) T7 W w' hS HL.out
                rw [hf7] at hf7c
                have HO7 := Aside0.mk ho7
                have HF7 := Aside0.mk hf7c
                clear hh2 ho7 hf7 hf7c hT7 eh2 hn1 hn2
                have HS33d := Aside0.mk (HS33.out.below (below_drew1 (Below.refl _ _)))
                have HA33d := Aside0.mk (blk_drew HA33.out)
                have HB33d := Aside0.mk (below_drew1 HB33.out)
                have gW33d : w33.drew.cell? ⟨w.heap.size, 2, none⟩ = some (.int .i64 W) := gW33
                have gT33d : w33.drew.cell? ⟨w.heap.size, 3, none⟩ = some (.int .i64 ta) := gT33
                have gU33d : w33.drew.cell? ⟨w.heap.size, 4, none⟩ = some (.int .i64 tb) := gU33
                refine start_ (n := 23) (S := fun w' => w'.cell? ⟨w.heap.size, 2, none⟩ = some (.int .i64 W) ∧ w'.cell? ⟨w.heap.size, 3, none⟩ = some (.int .i64 ta) ∧ w'.cell? ⟨w.heap.size, 4, none⟩ = some (.int .i64 tb)) (ds := []) #[false, false, false, false, false, false, false, false, false, false, false, false, false, false, false, false, false, false, false, false, false, false, false] (by kernel_rfl) rfl rfl ⟨gW33, gT33, gU33⟩ (fun hHeld => ?_); refine with_tabW spansRd.tab18 spansRd.bits18 (fun HT_ HW_ => ?_)
                refine pu 0 (some 137) ?_ HT_ rfl rfl (by kernel_rfl) (fun _ _ _ h => h) (Or.inl ⟨by rfl, ?_⟩) ?_ ?_ ?_
                rotate_left
                · intro w'; go_simp; with_reducible rfl
                rotate_left
                · simp only [Act.put, sA, sB, sC, i64_w]; rfl
                refine pu 1 (some 138) ?_ HT_ rfl rfl (by kernel_rfl) (fun _ _ _ h => h) (Or.inl ⟨by rfl, ?_⟩) ?_ ?_ ?_
                rotate_left
                · intro w'; go_simp; with_reducible rfl
                rotate_left
                · simp only [Act.put, sA, sB, sC, i64_w]; rfl
                refine pu 2 (some 139) ?_ HT_ rfl rfl (by kernel_rfl) (fun _ _ _ h => h) (Or.inl ⟨by rfl, ?_⟩) ?_ ?_ ?_
                rotate_left
                · intro w'; go_simp; with_reducible rfl
                rotate_left
                · simp only [Act.put, sA, sB, sC, i64_w]; rfl
                refine pu 3 (some 140) ?_ HT_ rfl rfl (by kernel_rfl) (fun _ _ _ h => h) (Or.inl ⟨by rfl, ?_⟩) ?_ ?_ ?_
                rotate_left
                · intro w'; go_simp; with_reducible rfl
                rotate_left
                · simp only [Act.put, sA, sB, sC, i64_w]; rfl
                refine pu 4 (some 141) ?_ HT_ rfl rfl (by kernel_rfl) (fun _ _ _ h => h) (Or.inl ⟨by rfl, ?_⟩) ?_ ?_ ?_
                rotate_left
                · intro w'; go_simp; with_reducible rfl
                rotate_left
                · simp only [Act.put, sA, sB, sC, i64_w]; rfl
                refine pu 5 (some 142) ?_ HT_ rfl rfl (by kernel_rfl) (fun _ _ _ h => h) (Or.inl ⟨by rfl, ?_⟩) ?_ ?_ ?_
                rotate_left
                · intro w'; go_simp; with_reducible rfl
                rotate_left
                · simp only [Act.put, sA, sB, sC, i64_w]; rfl
                refine pu 6 (some 143) ?_ HT_ rfl rfl (by kernel_rfl) (fun _ _ _ h => h) (Or.inl ⟨by rfl, ?_⟩) ?_ ?_ ?_
                rotate_left
                · intro w'; go_simp; with_reducible rfl
                rotate_left
                · simp only [Act.put, sA, sB, sC, i64_w]; rfl
                refine pu 7 (some 144) ?_ HT_ rfl rfl (by kernel_rfl) (fun _ _ _ h => h) (Or.inl ⟨by rfl, ?_⟩) ?_ ?_ ?_
                rotate_left
                · intro w'; go_simp; with_reducible rfl
                rotate_left
                · simp only [Act.put, sA, sB, sC, i64_w]; rfl
                refine pu 9 (some 146) ?_ HT_ rfl rfl (by kernel_rfl) (fun _ _ _ h => h) (Or.inl ⟨by rfl, ?_⟩) ?_ ?_ ?_
                rotate_left
                · intro w'; go_simp; with_reducible rfl
                rotate_left
                · simp only [Act.put, sA, sB, sC, i64_w]; rfl
                refine pu 10 (some 147) ?_ HT_ rfl rfl (by kernel_rfl) (fun _ _ _ h => h) (Or.inl ⟨by rfl, ?_⟩) ?_ ?_ ?_
                rotate_left
                · intro w'; go_simp; with_reducible rfl
                rotate_left
                · simp only [Act.put, sA, sB, sC, i64_w]; rfl
                refine tk 8 (some 145) ?_ HT_ HW_ rfl rfl (by kernel_rfl) (fun _ _ _ h => h) (Or.inl ⟨by rfl, ?_⟩) hHeld ?_ ?_ ?_
                rotate_left
                · rintro w' ⟨s0, s1, s2⟩; go_simp; with_reducible rfl
                rotate_left
                · simp only [Act.put, sA, sB, sC, i64_w]; rfl
                refine on 11 (some 148) HT_ rfl rfl (by kernel_rfl) (by decide) (fun K hK => ?_)
                refine goes_ Try.func26 (by kernel_rfl) rfl #[.agg #[.int .i64 ta, .int .i64 tb], .int .i64 (lv + 1)] (by rfl) rfl rfl (by (try simp only [List.map_toArray, List.map_cons, List.map_nil]); first | done | rfl | (simp only [List.length_drop, List.length_take]; rfl)) ?_
                with_reducible refine (HH2.out _).mono ?_
                rintro ev w41 ⟨rfl, hb41⟩
                have HS41 := Aside0.mk (HS33d.out.below hb41)
                have nA41 := blk_below HA33d.out hb41
                have HA41 := Aside0.mk nA41
                have gW41 : w41.cell? ⟨w.heap.size, 2, none⟩ = some (.int .i64 W) := (blk_cell nA41 2).trans rfl
                have gT41 : w41.cell? ⟨w.heap.size, 3, none⟩ = some (.int .i64 ta) := (blk_cell nA41 3).trans rfl
                have gU41 : w41.cell? ⟨w.heap.size, 4, none⟩ = some (.int .i64 tb) := (blk_cell nA41 4).trans rfl
                have HB41 := Aside0.mk (below_step HB33d.out hb41)
                clear nA41 hb41
                refine ⟨_, rfl, ?_⟩
                refine hK.out _ _ ⟨gW41, gT41, gU41⟩ (fun hHeld => ?_)
                clear hK K
                refine norm_ (a' := ?_) ?_ ?_
                rotate_left
                · show Act.put _ (some 148) _ = _; simp only [Act.put, sA, sB, sC, i64_w]; rfl
                refine pu 12 (some 149) ?_ HT_ rfl rfl (by kernel_rfl) (fun _ _ _ h => h) (Or.inl ⟨by rfl, ?_⟩) ?_ ?_ ?_
                rotate_left
                · intro w'; go_simp; with_reducible rfl
                rotate_left
                · simp only [Act.put, sA, sB, sC, i64_w]; rfl
                refine pu 13 (some 150) ?_ HT_ rfl rfl (by kernel_rfl) (fun _ _ _ h => h) (Or.inl ⟨by rfl, ?_⟩) ?_ ?_ ?_
                rotate_left
                · intro w'; go_simp; with_reducible rfl
                rotate_left
                · simp only [Act.put, sA, sB, sC, i64_w]; rfl
                refine pu 14 (some 151) ?_ HT_ rfl rfl (by kernel_rfl) (fun _ _ _ h => h) (Or.inl ⟨by rfl, ?_⟩) ?_ ?_ ?_
                rotate_left
                · intro w'; go_simp; with_reducible rfl
                rotate_left
                · simp only [Act.put, sA, sB, sC, i64_w]; rfl
                refine pu 15 (some 152) ?_ HT_ rfl rfl (by kernel_rfl) (fun _ _ _ h => h) (Or.inl ⟨by rfl, ?_⟩) ?_ ?_ ?_
                rotate_left
                · intro w'; go_simp; with_reducible rfl
                rotate_left
                · simp only [Act.put, sA, sB, sC, i64_w]; rfl
                refine pu 16 (some 153) ?_ HT_ rfl rfl (by kernel_rfl) (fun _ _ _ h => h) (Or.inl ⟨by rfl, ?_⟩) ?_ ?_ ?_
                rotate_left
                · intro w'; go_simp; with_reducible rfl
                rotate_left
                · simp only [Act.put, sA, sB, sC, i64_w]; rfl
                refine pu 17 (some 154) ?_ HT_ rfl rfl (by kernel_rfl) (fun _ _ _ h => h) (Or.inl ⟨by rfl, ?_⟩) ?_ ?_ ?_
                rotate_left
                · intro w'; go_simp; with_reducible rfl
                rotate_left
                · simp only [Act.put, sA, sB, sC, i64_w]; rfl
                refine pu 19 (some 156) ?_ HT_ rfl rfl (by kernel_rfl) (fun _ _ _ h => h) (Or.inl ⟨by rfl, ?_⟩) ?_ ?_ ?_
                rotate_left
                · intro w'; go_simp; with_reducible rfl
                rotate_left
                · simp only [Act.put, sA, sB, sC, i64_w]; rfl
                refine tk 20 (some 157) ?_ HT_ HW_ rfl rfl (by kernel_rfl) (fun _ _ _ h => h) (Or.inl ⟨by rfl, ?_⟩) hHeld ?_ ?_ ?_
                rotate_left
                · rintro w' ⟨s0, s1, s2⟩; go_simp; with_reducible rfl
                rotate_left
                · simp only [Act.put, sA, sB, sC, i64_w]; rfl
                refine on 18 (some 155) HT_ rfl rfl (by kernel_rfl) (by decide) (fun K hK => ?_)
                refine goes_ Try.func11 (by kernel_rfl) rfl #[.int .i64 (lv + 1), .int .i64 M] (by rfl) rfl rfl (by (try simp only [List.map_toArray, List.map_cons, List.map_nil]); first | done | rfl | (simp only [List.length_drop, List.length_take]; rfl)) ?_
                with_reducible refine (HO7.out _).mono ?_
                rintro ev w42 ⟨rfl, hb42⟩
                have HS42 := Aside0.mk (HS41.out.below hb42)
                have nA42 := blk_below HA41.out hb42
                have HA42 := Aside0.mk nA42
                have gW42 : w42.cell? ⟨w.heap.size, 2, none⟩ = some (.int .i64 W) := (blk_cell nA42 2).trans rfl
                have gT42 : w42.cell? ⟨w.heap.size, 3, none⟩ = some (.int .i64 ta) := (blk_cell nA42 3).trans rfl
                have gU42 : w42.cell? ⟨w.heap.size, 4, none⟩ = some (.int .i64 tb) := (blk_cell nA42 4).trans rfl
                have HB42 := Aside0.mk (below_step HB41.out hb42)
                clear nA42 hb42
                refine ⟨_, rfl, ?_⟩
                refine hK.out _ _ ⟨gW42, gT42, gU42⟩ (fun hHeld => ?_)
                clear hK K
                refine norm_ (a' := ?_) ?_ ?_
                rotate_left
                · show Act.put _ (some 155) _ = _; simp only [Act.put, sA, sB, sC, i64_w]; rfl
                refine on 21 (some 158) HT_ rfl rfl (by kernel_rfl) (by decide) (fun K hK => ?_)
                refine goes_ Try.func10 (by kernel_rfl) rfl #[.pointer (some ⟨p, 0, none⟩), .agg #[.int .i64 (lv + 1), .int .i64 T7], .int .i64 W] (by rfl) rfl rfl (by (try simp only [List.map_toArray, List.map_cons, List.map_nil]); first | done | rfl | (simp only [List.length_drop, List.length_take]; rfl)) ?_
                with_reducible refine (HF7.out _ HS42.out).mono ?_
                rintro ev w43 ⟨rfl, hb43⟩
                have HS43 := Aside0.mk (HS42.out.below hb43)
                have nA43 := blk_below HA42.out hb43
                have HA43 := Aside0.mk nA43
                have gW43 : w43.cell? ⟨w.heap.size, 2, none⟩ = some (.int .i64 W) := (blk_cell nA43 2).trans rfl
                have gT43 : w43.cell? ⟨w.heap.size, 3, none⟩ = some (.int .i64 ta) := (blk_cell nA43 3).trans rfl
                have gU43 : w43.cell? ⟨w.heap.size, 4, none⟩ = some (.int .i64 tb) := (blk_cell nA43 4).trans rfl
                have HB43 := Aside0.mk (below_step HB42.out hb43)
                clear nA43 hb43
                refine ⟨_, rfl, ?_⟩
                refine hK.out _ _ ⟨gW43, gT43, gU43⟩ (fun hHeld => ?_)
                clear hK K
                refine norm_ (a' := ?_) ?_ ?_
                rotate_left
                · show Act.put _ (some 158) _ = _; simp only [Act.put, sA, sB, sC, i64_w]; rfl
                refine pu 22 (some 159) ?_ HT_ rfl rfl (by kernel_rfl) (fun _ _ _ h => h) (Or.inl ⟨by rfl, ?_⟩) ?_ ?_ ?_
                rotate_left
                · intro w'; go_simp; with_reducible rfl
                rotate_left
                · simp only [Act.put, sA, sB, sC, i64_w]; rfl
                refine done_ (done_of HT_.out (by kernel_rfl)) ?_
                go_wp2_with (go_at_call 17; refine (one11_calls _).mono ?_; rintro ev w50 ⟨rfl, hb50⟩)
                go_ret
                exact ⟨rfl, below_step HB43.out hb50⟩
              · have eh2 : (decide (clT ta ≤ lv + 1) && decide (lv + 1 < clT tb)) = false := by simp; omega
                have hh2 := holds_any ta tb (lv + 1) ⟨by omega, by omega⟩
                rw [eh2] at hh2
                have HH2 := Aside0.mk hh2
                clear hh2 eh2 hn1 hn2
                have HS33d := Aside0.mk (HS33.out.below (below_drew1 (Below.refl _ _)))
                have HA33d := Aside0.mk (blk_drew HA33.out)
                have HB33d := Aside0.mk (below_drew1 HB33.out)
                have gW33d : w33.drew.cell? ⟨w.heap.size, 2, none⟩ = some (.int .i64 W) := gW33
                have gT33d : w33.drew.cell? ⟨w.heap.size, 3, none⟩ = some (.int .i64 ta) := gT33
                have gU33d : w33.drew.cell? ⟨w.heap.size, 4, none⟩ = some (.int .i64 tb) := gU33
                refine start_ (n := 23) (S := fun w' => w'.cell? ⟨w.heap.size, 2, none⟩ = some (.int .i64 W) ∧ w'.cell? ⟨w.heap.size, 3, none⟩ = some (.int .i64 ta) ∧ w'.cell? ⟨w.heap.size, 4, none⟩ = some (.int .i64 tb)) (ds := []) #[false, false, false, false, false, false, false, false, false, false, false, false, false, false, false, false, false, false, false, false, false, false, false] (by kernel_rfl) rfl rfl ⟨gW33, gT33, gU33⟩ (fun hHeld => ?_); refine with_tabW spansRd.tab18 spansRd.bits18 (fun HT_ HW_ => ?_)
                refine pu 0 (some 137) ?_ HT_ rfl rfl (by kernel_rfl) (fun _ _ _ h => h) (Or.inl ⟨by rfl, ?_⟩) ?_ ?_ ?_
                rotate_left
                · intro w'; go_simp; with_reducible rfl
                rotate_left
                · simp only [Act.put, sA, sB, sC, i64_w]; rfl
                refine pu 1 (some 138) ?_ HT_ rfl rfl (by kernel_rfl) (fun _ _ _ h => h) (Or.inl ⟨by rfl, ?_⟩) ?_ ?_ ?_
                rotate_left
                · intro w'; go_simp; with_reducible rfl
                rotate_left
                · simp only [Act.put, sA, sB, sC, i64_w]; rfl
                refine pu 2 (some 139) ?_ HT_ rfl rfl (by kernel_rfl) (fun _ _ _ h => h) (Or.inl ⟨by rfl, ?_⟩) ?_ ?_ ?_
                rotate_left
                · intro w'; go_simp; with_reducible rfl
                rotate_left
                · simp only [Act.put, sA, sB, sC, i64_w]; rfl
                refine pu 3 (some 140) ?_ HT_ rfl rfl (by kernel_rfl) (fun _ _ _ h => h) (Or.inl ⟨by rfl, ?_⟩) ?_ ?_ ?_
                rotate_left
                · intro w'; go_simp; with_reducible rfl
                rotate_left
                · simp only [Act.put, sA, sB, sC, i64_w]; rfl
                refine pu 4 (some 141) ?_ HT_ rfl rfl (by kernel_rfl) (fun _ _ _ h => h) (Or.inl ⟨by rfl, ?_⟩) ?_ ?_ ?_
                rotate_left
                · intro w'; go_simp; with_reducible rfl
                rotate_left
                · simp only [Act.put, sA, sB, sC, i64_w]; rfl
                refine pu 5 (some 142) ?_ HT_ rfl rfl (by kernel_rfl) (fun _ _ _ h => h) (Or.inl ⟨by rfl, ?_⟩) ?_ ?_ ?_
                rotate_left
                · intro w'; go_simp; with_reducible rfl
                rotate_left
                · simp only [Act.put, sA, sB, sC, i64_w]; rfl
                refine pu 6 (some 143) ?_ HT_ rfl rfl (by kernel_rfl) (fun _ _ _ h => h) (Or.inl ⟨by rfl, ?_⟩) ?_ ?_ ?_
                rotate_left
                · intro w'; go_simp; with_reducible rfl
                rotate_left
                · simp only [Act.put, sA, sB, sC, i64_w]; rfl
                refine pu 7 (some 144) ?_ HT_ rfl rfl (by kernel_rfl) (fun _ _ _ h => h) (Or.inl ⟨by rfl, ?_⟩) ?_ ?_ ?_
                rotate_left
                · intro w'; go_simp; with_reducible rfl
                rotate_left
                · simp only [Act.put, sA, sB, sC, i64_w]; rfl
                refine pu 9 (some 146) ?_ HT_ rfl rfl (by kernel_rfl) (fun _ _ _ h => h) (Or.inl ⟨by rfl, ?_⟩) ?_ ?_ ?_
                rotate_left
                · intro w'; go_simp; with_reducible rfl
                rotate_left
                · simp only [Act.put, sA, sB, sC, i64_w]; rfl
                refine pu 10 (some 147) ?_ HT_ rfl rfl (by kernel_rfl) (fun _ _ _ h => h) (Or.inl ⟨by rfl, ?_⟩) ?_ ?_ ?_
                rotate_left
                · intro w'; go_simp; with_reducible rfl
                rotate_left
                · simp only [Act.put, sA, sB, sC, i64_w]; rfl
                refine tk 8 (some 145) ?_ HT_ HW_ rfl rfl (by kernel_rfl) (fun _ _ _ h => h) (Or.inl ⟨by rfl, ?_⟩) hHeld ?_ ?_ ?_
                rotate_left
                · rintro w' ⟨s0, s1, s2⟩; go_simp; with_reducible rfl
                rotate_left
                · simp only [Act.put, sA, sB, sC, i64_w]; rfl
                refine on 11 (some 148) HT_ rfl rfl (by kernel_rfl) (by decide) (fun K hK => ?_)
                refine goes_ Try.func26 (by kernel_rfl) rfl #[.agg #[.int .i64 ta, .int .i64 tb], .int .i64 (lv + 1)] (by rfl) rfl rfl (by (try simp only [List.map_toArray, List.map_cons, List.map_nil]); first | done | rfl | (simp only [List.length_drop, List.length_take]; rfl)) ?_
                with_reducible refine (HH2.out _).mono ?_
                rintro ev w41 ⟨rfl, hb41⟩
                have HS41 := Aside0.mk (HS33d.out.below hb41)
                have nA41 := blk_below HA33d.out hb41
                have HA41 := Aside0.mk nA41
                have gW41 : w41.cell? ⟨w.heap.size, 2, none⟩ = some (.int .i64 W) := (blk_cell nA41 2).trans rfl
                have gT41 : w41.cell? ⟨w.heap.size, 3, none⟩ = some (.int .i64 ta) := (blk_cell nA41 3).trans rfl
                have gU41 : w41.cell? ⟨w.heap.size, 4, none⟩ = some (.int .i64 tb) := (blk_cell nA41 4).trans rfl
                have HB41 := Aside0.mk (below_step HB33d.out hb41)
                clear nA41 hb41
                refine ⟨_, rfl, ?_⟩
                refine hK.out _ _ ⟨gW41, gT41, gU41⟩ (fun hHeld => ?_)
                clear hK K
                refine norm_ (a' := ?_) ?_ ?_
                rotate_left
                · show Act.put _ (some 148) _ = _; simp only [Act.put, sA, sB, sC, i64_w]; rfl
                refine pu 12 (some 149) ?_ HT_ rfl rfl (by kernel_rfl) (fun _ _ _ h => h) (Or.inl ⟨by rfl, ?_⟩) ?_ ?_ ?_
                rotate_left
                · intro w'; go_simp; with_reducible rfl
                rotate_left
                · simp only [Act.put, sA, sB, sC, i64_w]; rfl
                refine pu 13 (some 150) ?_ HT_ rfl rfl (by kernel_rfl) (fun _ _ _ h => h) (Or.inl ⟨by rfl, ?_⟩) ?_ ?_ ?_
                rotate_left
                · intro w'; go_simp; with_reducible rfl
                rotate_left
                · simp only [Act.put, sA, sB, sC, i64_w]; rfl
                refine pu 14 (some 151) undef HT_ rfl rfl (by kernel_rfl) (fun _ _ _ h => h) (Or.inr ⟨by rfl, rfl⟩) ?_ ?_ ?_
                rotate_left
                · simp only [Act.put, sA, sB, sC, i64_w]; rfl
                refine pu 15 (some 152) undef HT_ rfl rfl (by kernel_rfl) (fun _ _ _ h => h) (Or.inr ⟨by rfl, rfl⟩) ?_ ?_ ?_
                rotate_left
                · simp only [Act.put, sA, sB, sC, i64_w]; rfl
                refine pu 16 (some 153) undef HT_ rfl rfl (by kernel_rfl) (fun _ _ _ h => h) (Or.inr ⟨by rfl, rfl⟩) ?_ ?_ ?_
                rotate_left
                · simp only [Act.put, sA, sB, sC, i64_w]; rfl
                refine pu 17 (some 154) undef HT_ rfl rfl (by kernel_rfl) (fun _ _ _ h => h) (Or.inr ⟨by rfl, rfl⟩) ?_ ?_ ?_
                rotate_left
                · simp only [Act.put, sA, sB, sC, i64_w]; rfl
                refine pu 18 (some 155) undef HT_ rfl rfl (by kernel_rfl) (fun _ _ _ h => h) (Or.inr ⟨by rfl, rfl⟩) ?_ ?_ ?_
                rotate_left
                · simp only [Act.put, sA, sB, sC, i64_w]; rfl
                refine pu 19 (some 156) undef HT_ rfl rfl (by kernel_rfl) (fun _ _ _ h => h) (Or.inr ⟨by rfl, rfl⟩) ?_ ?_ ?_
                rotate_left
                · simp only [Act.put, sA, sB, sC, i64_w]; rfl
                refine pu 20 (some 157) undef HT_ rfl rfl (by kernel_rfl) (fun _ _ _ h => h) (Or.inr ⟨by rfl, rfl⟩) ?_ ?_ ?_
                rotate_left
                · simp only [Act.put, sA, sB, sC, i64_w]; rfl
                refine pu 21 (some 158) undef HT_ rfl rfl (by kernel_rfl) (fun _ _ _ h => h) (Or.inr ⟨by rfl, rfl⟩) ?_ ?_ ?_
                rotate_left
                · simp only [Act.put, sA, sB, sC, i64_w]; rfl
                refine pu 22 (some 159) ?_ HT_ rfl rfl (by kernel_rfl) (fun _ _ _ h => h) (Or.inl ⟨by rfl, ?_⟩) ?_ ?_ ?_
                rotate_left
                · intro w'; go_simp; with_reducible rfl
                rotate_left
                · simp only [Act.put, sA, sB, sC, i64_w]; rfl
                refine done_ (done_of HT_.out (by kernel_rfl)) ?_
                go_wp2_with (go_at_call 17; refine (one11_calls _).mono ?_; rintro ev w50 ⟨rfl, hb50⟩)
                go_ret
                exact ⟨rfl, below_step HB41.out hb50⟩
            · have en1 : decide (lv + 1 < 1099511627776) = false := by simp; omega
              clear hn1
              have HS33d := Aside0.mk (HS33.out.below (below_drew1 (Below.refl _ _)))
              have HA33d := Aside0.mk (blk_drew HA33.out)
              have HB33d := Aside0.mk (below_drew1 HB33.out)
              have gW33d : w33.drew.cell? ⟨w.heap.size, 2, none⟩ = some (.int .i64 W) := gW33
              have gT33d : w33.drew.cell? ⟨w.heap.size, 3, none⟩ = some (.int .i64 ta) := gT33
              have gU33d : w33.drew.cell? ⟨w.heap.size, 4, none⟩ = some (.int .i64 tb) := gU33
              refine start_ (n := 23) (S := fun w' => w'.cell? ⟨w.heap.size, 2, none⟩ = some (.int .i64 W) ∧ w'.cell? ⟨w.heap.size, 3, none⟩ = some (.int .i64 ta) ∧ w'.cell? ⟨w.heap.size, 4, none⟩ = some (.int .i64 tb)) (ds := []) #[false, false, false, false, false, false, false, false, false, false, false, false, false, false, false, false, false, false, false, false, false, false, false] (by kernel_rfl) rfl rfl ⟨gW33, gT33, gU33⟩ (fun hHeld => ?_); refine with_tabW spansRd.tab18 spansRd.bits18 (fun HT_ HW_ => ?_)
              refine pu 0 (some 137) ?_ HT_ rfl rfl (by kernel_rfl) (fun _ _ _ h => h) (Or.inl ⟨by rfl, ?_⟩) ?_ ?_ ?_
              rotate_left
              · intro w'; go_simp; with_reducible rfl
              rotate_left
              · simp only [Act.put, sA, sB, sC, i64_w]; rfl
              refine pu 1 (some 138) ?_ HT_ rfl rfl (by kernel_rfl) (fun _ _ _ h => h) (Or.inl ⟨by rfl, ?_⟩) ?_ ?_ ?_
              rotate_left
              · intro w'; go_simp; with_reducible rfl
              rotate_left
              · simp only [Act.put, sA, sB, sC, i64_w]; rfl
              refine pu 2 (some 139) ?_ HT_ rfl rfl (by kernel_rfl) (fun _ _ _ h => h) (Or.inl ⟨by rfl, ?_⟩) ?_ ?_ ?_
              rotate_left
              · intro w'; go_simp; with_reducible rfl
              rotate_left
              · simp only [Act.put, sA, sB, sC, i64_w]; rfl
              refine pu 3 (some 140) ?_ HT_ rfl rfl (by kernel_rfl) (fun _ _ _ h => h) (Or.inl ⟨by rfl, ?_⟩) ?_ ?_ ?_
              rotate_left
              · intro w'; go_simp; with_reducible rfl
              rotate_left
              · simp only [Act.put, sA, sB, sC, i64_w]; rfl
              refine pu 4 (some 141) ?_ HT_ rfl rfl (by kernel_rfl) (fun _ _ _ h => h) (Or.inl ⟨by rfl, ?_⟩) ?_ ?_ ?_
              rotate_left
              · intro w'; go_simp; with_reducible rfl
              rotate_left
              · simp only [Act.put, sA, sB, sC, i64_w]; rfl
              refine pu 5 (some 142) ?_ HT_ rfl rfl (by kernel_rfl) (fun _ _ _ h => h) (Or.inl ⟨by rfl, ?_⟩) ?_ ?_ ?_
              rotate_left
              · intro w'; go_simp; with_reducible rfl
              rotate_left
              · simp only [Act.put, sA, sB, sC, i64_w]; rfl
              refine pu 6 (some 143) ?_ HT_ rfl rfl (by kernel_rfl) (fun _ _ _ h => h) (Or.inl ⟨by rfl, ?_⟩) ?_ ?_ ?_
              rotate_left
              · intro w'; go_simp; with_reducible rfl
              rotate_left
              · simp only [Act.put, sA, sB, sC, i64_w]; rfl
              refine pu 7 (some 144) undef HT_ rfl rfl (by kernel_rfl) (fun _ _ _ h => h) (Or.inr ⟨by rfl, rfl⟩) ?_ ?_ ?_
              rotate_left
              · simp only [Act.put, sA, sB, sC, i64_w]; rfl
              refine pu 8 (some 145) undef HT_ rfl rfl (by kernel_rfl) (fun _ _ _ h => h) (Or.inr ⟨by rfl, rfl⟩) ?_ ?_ ?_
              rotate_left
              · simp only [Act.put, sA, sB, sC, i64_w]; rfl
              refine pu 9 (some 146) undef HT_ rfl rfl (by kernel_rfl) (fun _ _ _ h => h) (Or.inr ⟨by rfl, rfl⟩) ?_ ?_ ?_
              rotate_left
              · simp only [Act.put, sA, sB, sC, i64_w]; rfl
              refine pu 10 (some 147) undef HT_ rfl rfl (by kernel_rfl) (fun _ _ _ h => h) (Or.inr ⟨by rfl, rfl⟩) ?_ ?_ ?_
              rotate_left
              · simp only [Act.put, sA, sB, sC, i64_w]; rfl
              refine pu 11 (some 148) undef HT_ rfl rfl (by kernel_rfl) (fun _ _ _ h => h) (Or.inr ⟨by rfl, rfl⟩) ?_ ?_ ?_
              rotate_left
              · simp only [Act.put, sA, sB, sC, i64_w]; rfl
              refine pu 12 (some 149) ?_ HT_ rfl rfl (by kernel_rfl) (fun _ _ _ h => h) (Or.inl ⟨by rfl, ?_⟩) ?_ ?_ ?_
              rotate_left
              · intro w'; go_simp; with_reducible rfl
              rotate_left
              · simp only [Act.put, sA, sB, sC, i64_w]; rfl
              refine pu 13 (some 150) ?_ HT_ rfl rfl (by kernel_rfl) (fun _ _ _ h => h) (Or.inl ⟨by rfl, ?_⟩) ?_ ?_ ?_
              rotate_left
              · intro w'; go_simp; with_reducible rfl
              rotate_left
              · simp only [Act.put, sA, sB, sC, i64_w]; rfl
              refine pu 14 (some 151) undef HT_ rfl rfl (by kernel_rfl) (fun _ _ _ h => h) (Or.inr ⟨by rfl, rfl⟩) ?_ ?_ ?_
              rotate_left
              · simp only [Act.put, sA, sB, sC, i64_w]; rfl
              refine pu 15 (some 152) undef HT_ rfl rfl (by kernel_rfl) (fun _ _ _ h => h) (Or.inr ⟨by rfl, rfl⟩) ?_ ?_ ?_
              rotate_left
              · simp only [Act.put, sA, sB, sC, i64_w]; rfl
              refine pu 16 (some 153) undef HT_ rfl rfl (by kernel_rfl) (fun _ _ _ h => h) (Or.inr ⟨by rfl, rfl⟩) ?_ ?_ ?_
              rotate_left
              · simp only [Act.put, sA, sB, sC, i64_w]; rfl
              refine pu 17 (some 154) undef HT_ rfl rfl (by kernel_rfl) (fun _ _ _ h => h) (Or.inr ⟨by rfl, rfl⟩) ?_ ?_ ?_
              rotate_left
              · simp only [Act.put, sA, sB, sC, i64_w]; rfl
              refine pu 18 (some 155) undef HT_ rfl rfl (by kernel_rfl) (fun _ _ _ h => h) (Or.inr ⟨by rfl, rfl⟩) ?_ ?_ ?_
              rotate_left
              · simp only [Act.put, sA, sB, sC, i64_w]; rfl
              refine pu 19 (some 156) undef HT_ rfl rfl (by kernel_rfl) (fun _ _ _ h => h) (Or.inr ⟨by rfl, rfl⟩) ?_ ?_ ?_
              rotate_left
              · simp only [Act.put, sA, sB, sC, i64_w]; rfl
              refine pu 20 (some 157) undef HT_ rfl rfl (by kernel_rfl) (fun _ _ _ h => h) (Or.inr ⟨by rfl, rfl⟩) ?_ ?_ ?_
              rotate_left
              · simp only [Act.put, sA, sB, sC, i64_w]; rfl
              refine pu 21 (some 158) undef HT_ rfl rfl (by kernel_rfl) (fun _ _ _ h => h) (Or.inr ⟨by rfl, rfl⟩) ?_ ?_ ?_
              rotate_left
              · simp only [Act.put, sA, sB, sC, i64_w]; rfl
              refine pu 22 (some 159) ?_ HT_ rfl rfl (by kernel_rfl) (fun _ _ _ h => h) (Or.inl ⟨by rfl, ?_⟩) ?_ ?_ ?_
              rotate_left
              · intro w'; go_simp; with_reducible rfl
              rotate_left
              · simp only [Act.put, sA, sB, sC, i64_w]; rfl
              refine done_ (done_of HT_.out (by kernel_rfl)) ?_
              go_wp2_with (go_at_call 17; refine (one11_calls _).mono ?_; rintro ev w50 ⟨rfl, hb50⟩)
              go_ret
              exact ⟨rfl, below_step HB33d.out hb50⟩
        · have eF : decide (F ≤ T) = false := by simp; omega
          have hI : I0 = false := Bool.eq_false_iff.2 (fun h => hTF (HIT.out.1 h).1)
          subst hI
          clear hTn hTF
          go_wp2
          have HSrd := Aside0.mk (HSr.out.below (below_drew1 (Below.refl _ _)))
          have HArd := Aside0.mk (blk_drew HAr.out)
          have HBrd := Aside0.mk (below_drew1 HBr.out)
          have gWrd : wr.drew.cell? ⟨w.heap.size, 2, none⟩ = some (.int .i64 W) := gWr
          have gTrd : wr.drew.cell? ⟨w.heap.size, 3, none⟩ = some (.int .i64 ta) := gTr
          have gUrd : wr.drew.cell? ⟨w.heap.size, 4, none⟩ = some (.int .i64 tb) := gUr
          refine start_ (n := 18) (S := fun w' => w'.cell? ⟨w.heap.size, 2, none⟩ = some (.int .i64 W) ∧ w'.cell? ⟨w.heap.size, 3, none⟩ = some (.int .i64 ta) ∧ w'.cell? ⟨w.heap.size, 4, none⟩ = some (.int .i64 tb)) (ds := []) #[false, false, false, false, false, false, false, false, false, false, false, false, false, false, false, false, false, false] (by kernel_rfl) rfl rfl ⟨gWr, gTr, gUr⟩ (fun hHeld => ?_); refine with_tabW spansRb.tab13 spansRb.bits13 (fun HT_ HW_ => ?_)
          refine pu 0 (some 91) ?_ HT_ rfl rfl (by kernel_rfl) (fun _ _ _ h => h) (Or.inl ⟨by rfl, ?_⟩) ?_ ?_ ?_
          rotate_left
          · intro w'; go_simp; with_reducible rfl
          rotate_left
          · simp only [Act.put, sA, sB, sC, i64_w]; rfl
          refine pu 1 (some 92) ?_ HT_ rfl rfl (by kernel_rfl) (fun _ _ _ h => h) (Or.inl ⟨by rfl, ?_⟩) ?_ ?_ ?_
          rotate_left
          · intro w'; go_simp; with_reducible rfl
          rotate_left
          · simp only [Act.put, sA, sB, sC, i64_w]; rfl
          refine pu 2 (some 93) ?_ HT_ rfl rfl (by kernel_rfl) (fun _ _ _ h => h) (Or.inl ⟨by rfl, ?_⟩) ?_ ?_ ?_
          rotate_left
          · intro w'; go_simp; with_reducible rfl
          rotate_left
          · simp only [Act.put, sA, sB, sC, i64_w]; rfl
          refine pu 3 (some 94) ?_ HT_ rfl rfl (by kernel_rfl) (fun _ _ _ h => h) (Or.inl ⟨by rfl, ?_⟩) ?_ ?_ ?_
          rotate_left
          · intro w'; go_simp; with_reducible rfl
          rotate_left
          · simp only [Act.put, sA, sB, sC, i64_w]; rfl
          refine pu 4 (some 95) ?_ HT_ rfl rfl (by kernel_rfl) (fun _ _ _ h => h) (Or.inl ⟨by rfl, ?_⟩) ?_ ?_ ?_
          rotate_left
          · intro w'; go_simp; with_reducible rfl
          rotate_left
          · simp only [Act.put, sA, sB, sC, i64_w]; rfl
          refine pu 5 (some 96) ?_ HT_ rfl rfl (by kernel_rfl) (fun _ _ _ h => h) (Or.inl ⟨by rfl, ?_⟩) ?_ ?_ ?_
          rotate_left
          · intro w'; go_simp; with_reducible rfl
          rotate_left
          · simp only [Act.put, sA, sB, sC, i64_w]; rfl
          refine pu 6 (some 97) ?_ HT_ rfl rfl (by kernel_rfl) (fun _ _ _ h => h) (Or.inl ⟨by rfl, ?_⟩) ?_ ?_ ?_
          rotate_left
          · intro w'; go_simp; with_reducible rfl
          rotate_left
          · simp only [Act.put, sA, sB, sC, i64_w]; rfl
          refine pu 7 (some 98) ?_ HT_ rfl rfl (by kernel_rfl) (fun _ _ _ h => h) (Or.inl ⟨by rfl, ?_⟩) ?_ ?_ ?_
          rotate_left
          · intro w'; go_simp; with_reducible rfl
          rotate_left
          · simp only [Act.put, sA, sB, sC, i64_w]; rfl
          refine pu 8 (some 99) undef HT_ rfl rfl (by kernel_rfl) (fun _ _ _ h => h) (Or.inr ⟨by rfl, rfl⟩) ?_ ?_ ?_
          rotate_left
          · simp only [Act.put, sA, sB, sC, i64_w]; rfl
          refine pu 9 (some 100) undef HT_ rfl rfl (by kernel_rfl) (fun _ _ _ h => h) (Or.inr ⟨by rfl, rfl⟩) ?_ ?_ ?_
          rotate_left
          · simp only [Act.put, sA, sB, sC, i64_w]; rfl
          refine pu 10 (some 101) undef HT_ rfl rfl (by kernel_rfl) (fun _ _ _ h => h) (Or.inr ⟨by rfl, rfl⟩) ?_ ?_ ?_
          rotate_left
          · simp only [Act.put, sA, sB, sC, i64_w]; rfl
          refine pu 11 (some 102) undef HT_ rfl rfl (by kernel_rfl) (fun _ _ _ h => h) (Or.inr ⟨by rfl, rfl⟩) ?_ ?_ ?_
          rotate_left
          · simp only [Act.put, sA, sB, sC, i64_w]; rfl
          refine pu 12 (some 103) undef HT_ rfl rfl (by kernel_rfl) (fun _ _ _ h => h) (Or.inr ⟨by rfl, rfl⟩) ?_ ?_ ?_
          rotate_left
          · simp only [Act.put, sA, sB, sC, i64_w]; rfl
          refine pu 13 (some 104) undef HT_ rfl rfl (by kernel_rfl) (fun _ _ _ h => h) (Or.inr ⟨by rfl, rfl⟩) ?_ ?_ ?_
          rotate_left
          · simp only [Act.put, sA, sB, sC, i64_w]; rfl
          refine pu 14 (some 105) undef HT_ rfl rfl (by kernel_rfl) (fun _ _ _ h => h) (Or.inr ⟨by rfl, rfl⟩) ?_ ?_ ?_
          rotate_left
          · simp only [Act.put, sA, sB, sC, i64_w]; rfl
          refine pu 15 (some 106) ?_ HT_ rfl rfl (by kernel_rfl) (fun _ _ _ h => h) (Or.inl ⟨by rfl, ?_⟩) ?_ ?_ ?_
          rotate_left
          · intro w'; go_simp; with_reducible rfl
          rotate_left
          · simp only [Act.put, sA, sB, sC, i64_w]; rfl
          refine pu 16 (some 107) ?_ HT_ rfl rfl (by kernel_rfl) (fun _ _ _ h => h) (Or.inl ⟨by rfl, ?_⟩) ?_ ?_ ?_
          rotate_left
          · intro w'; go_simp; with_reducible rfl
          rotate_left
          · simp only [Act.put, sA, sB, sC, i64_w]; rfl
          refine pu 17 (some 108) ?_ HT_ rfl rfl (by kernel_rfl) (fun _ _ _ h => h) (Or.inl ⟨by rfl, ?_⟩) ?_ ?_ ?_
          rotate_left
          · intro w'; go_simp; with_reducible rfl
          rotate_left
          · simp only [Act.put, sA, sB, sC, i64_w]; rfl
          refine done_ (done_of HT_.out (by kernel_rfl)) ?_
          cases ok with
          | false =>
            have hlv := HLs.out.1 rfl
            subst hlv
            go_wp2_with (go_at_call 22; refine (HLat.out _ _ (FreeIs.made HSrd.out)).mono ?_; rintro ev w23 ⟨rfl, hb23⟩; have HS23 := Aside0.mk (HSrd.out.below hb23); have nA23 := blk_below HArd.out hb23; have HA23 := Aside0.mk nA23; have gW23 : w23.cell? ⟨w.heap.size, 2, none⟩ = some (.int .i64 W) := (blk_cell nA23 2).trans rfl; have gT23 : w23.cell? ⟨w.heap.size, 3, none⟩ = some (.int .i64 ta) := (blk_cell nA23 3).trans rfl; have gU23 : w23.cell? ⟨w.heap.size, 4, none⟩ = some (.int .i64 tb) := (blk_cell nA23 4).trans rfl; have HB23 := Aside0.mk (below_step HBrd.out hb23); clear nA23 hb23)
            have HS23d := Aside0.mk (HS23.out.below (below_drew1 (Below.refl _ _)))
            have HA23d := Aside0.mk (blk_drew HA23.out)
            have HB23d := Aside0.mk (below_drew1 HB23.out)
            have gW23d : w23.drew.cell? ⟨w.heap.size, 2, none⟩ = some (.int .i64 W) := gW23
            have gT23d : w23.drew.cell? ⟨w.heap.size, 3, none⟩ = some (.int .i64 ta) := gT23
            have gU23d : w23.drew.cell? ⟨w.heap.size, 4, none⟩ = some (.int .i64 tb) := gU23
            refine start_ (n := 18) (S := fun w' => w'.cell? ⟨w.heap.size, 2, none⟩ = some (.int .i64 W) ∧ w'.cell? ⟨w.heap.size, 3, none⟩ = some (.int .i64 ta) ∧ w'.cell? ⟨w.heap.size, 4, none⟩ = some (.int .i64 tb)) (ds := []) #[false, false, false, false, false, false, false, false, false, false, false, false, false, false, false, false, false, false] (by kernel_rfl) rfl rfl ⟨gW23, gT23, gU23⟩ (fun hHeld => ?_); refine with_tabW spansRc.tab16 spansRc.bits16 (fun HT_ HW_ => ?_)
            refine pu 0 (some 119) ?_ HT_ rfl rfl (by kernel_rfl) (fun _ _ _ h => h) (Or.inl ⟨by rfl, ?_⟩) ?_ ?_ ?_
            rotate_left
            · intro w'; go_simp; with_reducible rfl
            rotate_left
            · simp only [Act.put, sA, sB, sC, i64_w]; rfl
            refine pu 1 (some 120) ?_ HT_ rfl rfl (by kernel_rfl) (fun _ _ _ h => h) (Or.inl ⟨by rfl, ?_⟩) ?_ ?_ ?_
            rotate_left
            · intro w'; go_simp; with_reducible rfl
            rotate_left
            · simp only [Act.put, sA, sB, sC, i64_w]; rfl
            refine pu 2 (some 121) undef HT_ rfl rfl (by kernel_rfl) (fun _ _ _ h => h) (Or.inr ⟨by rfl, rfl⟩) ?_ ?_ ?_
            rotate_left
            · simp only [Act.put, sA, sB, sC, i64_w]; rfl
            refine pu 3 (some 122) undef HT_ rfl rfl (by kernel_rfl) (fun _ _ _ h => h) (Or.inr ⟨by rfl, rfl⟩) ?_ ?_ ?_
            rotate_left
            · simp only [Act.put, sA, sB, sC, i64_w]; rfl
            refine pu 4 (some 123) undef HT_ rfl rfl (by kernel_rfl) (fun _ _ _ h => h) (Or.inr ⟨by rfl, rfl⟩) ?_ ?_ ?_
            rotate_left
            · simp only [Act.put, sA, sB, sC, i64_w]; rfl
            refine pu 5 (some 124) undef HT_ rfl rfl (by kernel_rfl) (fun _ _ _ h => h) (Or.inr ⟨by rfl, rfl⟩) ?_ ?_ ?_
            rotate_left
            · simp only [Act.put, sA, sB, sC, i64_w]; rfl
            refine pu 6 (some 125) undef HT_ rfl rfl (by kernel_rfl) (fun _ _ _ h => h) (Or.inr ⟨by rfl, rfl⟩) ?_ ?_ ?_
            rotate_left
            · simp only [Act.put, sA, sB, sC, i64_w]; rfl
            refine pu 7 (some 126) undef HT_ rfl rfl (by kernel_rfl) (fun _ _ _ h => h) (Or.inr ⟨by rfl, rfl⟩) ?_ ?_ ?_
            rotate_left
            · simp only [Act.put, sA, sB, sC, i64_w]; rfl
            refine pu 8 (some 127) undef HT_ rfl rfl (by kernel_rfl) (fun _ _ _ h => h) (Or.inr ⟨by rfl, rfl⟩) ?_ ?_ ?_
            rotate_left
            · simp only [Act.put, sA, sB, sC, i64_w]; rfl
            refine pu 9 (some 128) undef HT_ rfl rfl (by kernel_rfl) (fun _ _ _ h => h) (Or.inr ⟨by rfl, rfl⟩) ?_ ?_ ?_
            rotate_left
            · simp only [Act.put, sA, sB, sC, i64_w]; rfl
            refine pu 10 (some 129) undef HT_ rfl rfl (by kernel_rfl) (fun _ _ _ h => h) (Or.inr ⟨by rfl, rfl⟩) ?_ ?_ ?_
            rotate_left
            · simp only [Act.put, sA, sB, sC, i64_w]; rfl
            refine pu 11 (some 130) undef HT_ rfl rfl (by kernel_rfl) (fun _ _ _ h => h) (Or.inr ⟨by rfl, rfl⟩) ?_ ?_ ?_
            rotate_left
            · simp only [Act.put, sA, sB, sC, i64_w]; rfl
            refine pu 12 (some 131) undef HT_ rfl rfl (by kernel_rfl) (fun _ _ _ h => h) (Or.inr ⟨by rfl, rfl⟩) ?_ ?_ ?_
            rotate_left
            · simp only [Act.put, sA, sB, sC, i64_w]; rfl
            refine pu 13 (some 132) undef HT_ rfl rfl (by kernel_rfl) (fun _ _ _ h => h) (Or.inr ⟨by rfl, rfl⟩) ?_ ?_ ?_
            rotate_left
            · simp only [Act.put, sA, sB, sC, i64_w]; rfl
            refine pu 14 (some 133) undef HT_ rfl rfl (by kernel_rfl) (fun _ _ _ h => h) (Or.inr ⟨by rfl, rfl⟩) ?_ ?_ ?_
            rotate_left
            · simp only [Act.put, sA, sB, sC, i64_w]; rfl
            refine pu 15 (some 134) undef HT_ rfl rfl (by kernel_rfl) (fun _ _ _ h => h) (Or.inr ⟨by rfl, rfl⟩) ?_ ?_ ?_
            rotate_left
            · simp only [Act.put, sA, sB, sC, i64_w]; rfl
            refine pu 16 (some 135) undef HT_ rfl rfl (by kernel_rfl) (fun _ _ _ h => h) (Or.inr ⟨by rfl, rfl⟩) ?_ ?_ ?_
            rotate_left
            · simp only [Act.put, sA, sB, sC, i64_w]; rfl
            refine pu 17 (some 136) ?_ HT_ rfl rfl (by kernel_rfl) (fun _ _ _ h => h) (Or.inl ⟨by rfl, ?_⟩) ?_ ?_ ?_
            rotate_left
            · intro w'; go_simp; with_reducible rfl
            rotate_left
            · simp only [Act.put, sA, sB, sC, i64_w]; rfl
            refine done_ (done_of HT_.out (by kernel_rfl)) ?_
            go_wp2
            have HS23dd := Aside0.mk (HS23d.out.below (below_drew1 (Below.refl _ _)))
            have HA23dd := Aside0.mk (blk_drew HA23d.out)
            have HB23dd := Aside0.mk (below_drew1 HB23d.out)
            have gW23dd : w23.drew.drew.cell? ⟨w.heap.size, 2, none⟩ = some (.int .i64 W) := gW23d
            have gT23dd : w23.drew.drew.cell? ⟨w.heap.size, 3, none⟩ = some (.int .i64 ta) := gT23d
            have gU23dd : w23.drew.drew.cell? ⟨w.heap.size, 4, none⟩ = some (.int .i64 tb) := gU23d
            refine start_ (n := 23) (S := fun w' => w'.cell? ⟨w.heap.size, 2, none⟩ = some (.int .i64 W) ∧ w'.cell? ⟨w.heap.size, 3, none⟩ = some (.int .i64 ta) ∧ w'.cell? ⟨w.heap.size, 4, none⟩ = some (.int .i64 tb)) (ds := []) #[false, false, false, false, false, false, false, false, false, false, false, false, false, false, false, false, false, false, false, false, false, false, false] (by kernel_rfl) rfl rfl ⟨gW23d, gT23d, gU23d⟩ (fun hHeld => ?_); refine with_tabW spansRd.tab18 spansRd.bits18 (fun HT_ HW_ => ?_)
            refine pu 0 (some 137) ?_ HT_ rfl rfl (by kernel_rfl) (fun _ _ _ h => h) (Or.inl ⟨by rfl, ?_⟩) ?_ ?_ ?_
            rotate_left
            · intro w'; go_simp; with_reducible rfl
            rotate_left
            · simp only [Act.put, sA, sB, sC, i64_w]; rfl
            refine pu 1 (some 138) ?_ HT_ rfl rfl (by kernel_rfl) (fun _ _ _ h => h) (Or.inl ⟨by rfl, ?_⟩) ?_ ?_ ?_
            rotate_left
            · intro w'; go_simp; with_reducible rfl
            rotate_left
            · simp only [Act.put, sA, sB, sC, i64_w]; rfl
            refine pu 2 (some 139) undef HT_ rfl rfl (by kernel_rfl) (fun _ _ _ h => h) (Or.inr ⟨by rfl, rfl⟩) ?_ ?_ ?_
            rotate_left
            · simp only [Act.put, sA, sB, sC, i64_w]; rfl
            refine pu 3 (some 140) undef HT_ rfl rfl (by kernel_rfl) (fun _ _ _ h => h) (Or.inr ⟨by rfl, rfl⟩) ?_ ?_ ?_
            rotate_left
            · simp only [Act.put, sA, sB, sC, i64_w]; rfl
            refine pu 4 (some 141) undef HT_ rfl rfl (by kernel_rfl) (fun _ _ _ h => h) (Or.inr ⟨by rfl, rfl⟩) ?_ ?_ ?_
            rotate_left
            · simp only [Act.put, sA, sB, sC, i64_w]; rfl
            refine pu 5 (some 142) ?_ HT_ rfl rfl (by kernel_rfl) (fun _ _ _ h => h) (Or.inl ⟨by rfl, ?_⟩) ?_ ?_ ?_
            rotate_left
            · intro w'; go_simp; with_reducible rfl
            rotate_left
            · simp only [Act.put, sA, sB, sC, i64_w]; rfl
            refine pu 6 (some 143) ?_ HT_ rfl rfl (by kernel_rfl) (fun _ _ _ h => h) (Or.inl ⟨by rfl, ?_⟩) ?_ ?_ ?_
            rotate_left
            · intro w'; go_simp; with_reducible rfl
            rotate_left
            · simp only [Act.put, sA, sB, sC, i64_w]; rfl
            refine pu 7 (some 144) undef HT_ rfl rfl (by kernel_rfl) (fun _ _ _ h => h) (Or.inr ⟨by rfl, rfl⟩) ?_ ?_ ?_
            rotate_left
            · simp only [Act.put, sA, sB, sC, i64_w]; rfl
            refine pu 8 (some 145) undef HT_ rfl rfl (by kernel_rfl) (fun _ _ _ h => h) (Or.inr ⟨by rfl, rfl⟩) ?_ ?_ ?_
            rotate_left
            · simp only [Act.put, sA, sB, sC, i64_w]; rfl
            refine pu 9 (some 146) undef HT_ rfl rfl (by kernel_rfl) (fun _ _ _ h => h) (Or.inr ⟨by rfl, rfl⟩) ?_ ?_ ?_
            rotate_left
            · simp only [Act.put, sA, sB, sC, i64_w]; rfl
            refine pu 10 (some 147) undef HT_ rfl rfl (by kernel_rfl) (fun _ _ _ h => h) (Or.inr ⟨by rfl, rfl⟩) ?_ ?_ ?_
            rotate_left
            · simp only [Act.put, sA, sB, sC, i64_w]; rfl
            refine pu 11 (some 148) undef HT_ rfl rfl (by kernel_rfl) (fun _ _ _ h => h) (Or.inr ⟨by rfl, rfl⟩) ?_ ?_ ?_
            rotate_left
            · simp only [Act.put, sA, sB, sC, i64_w]; rfl
            refine pu 12 (some 149) ?_ HT_ rfl rfl (by kernel_rfl) (fun _ _ _ h => h) (Or.inl ⟨by rfl, ?_⟩) ?_ ?_ ?_
            rotate_left
            · intro w'; go_simp; with_reducible rfl
            rotate_left
            · simp only [Act.put, sA, sB, sC, i64_w]; rfl
            refine pu 13 (some 150) ?_ HT_ rfl rfl (by kernel_rfl) (fun _ _ _ h => h) (Or.inl ⟨by rfl, ?_⟩) ?_ ?_ ?_
            rotate_left
            · intro w'; go_simp; with_reducible rfl
            rotate_left
            · simp only [Act.put, sA, sB, sC, i64_w]; rfl
            refine pu 14 (some 151) undef HT_ rfl rfl (by kernel_rfl) (fun _ _ _ h => h) (Or.inr ⟨by rfl, rfl⟩) ?_ ?_ ?_
            rotate_left
            · simp only [Act.put, sA, sB, sC, i64_w]; rfl
            refine pu 15 (some 152) undef HT_ rfl rfl (by kernel_rfl) (fun _ _ _ h => h) (Or.inr ⟨by rfl, rfl⟩) ?_ ?_ ?_
            rotate_left
            · simp only [Act.put, sA, sB, sC, i64_w]; rfl
            refine pu 16 (some 153) undef HT_ rfl rfl (by kernel_rfl) (fun _ _ _ h => h) (Or.inr ⟨by rfl, rfl⟩) ?_ ?_ ?_
            rotate_left
            · simp only [Act.put, sA, sB, sC, i64_w]; rfl
            refine pu 17 (some 154) undef HT_ rfl rfl (by kernel_rfl) (fun _ _ _ h => h) (Or.inr ⟨by rfl, rfl⟩) ?_ ?_ ?_
            rotate_left
            · simp only [Act.put, sA, sB, sC, i64_w]; rfl
            refine pu 18 (some 155) undef HT_ rfl rfl (by kernel_rfl) (fun _ _ _ h => h) (Or.inr ⟨by rfl, rfl⟩) ?_ ?_ ?_
            rotate_left
            · simp only [Act.put, sA, sB, sC, i64_w]; rfl
            refine pu 19 (some 156) undef HT_ rfl rfl (by kernel_rfl) (fun _ _ _ h => h) (Or.inr ⟨by rfl, rfl⟩) ?_ ?_ ?_
            rotate_left
            · simp only [Act.put, sA, sB, sC, i64_w]; rfl
            refine pu 20 (some 157) undef HT_ rfl rfl (by kernel_rfl) (fun _ _ _ h => h) (Or.inr ⟨by rfl, rfl⟩) ?_ ?_ ?_
            rotate_left
            · simp only [Act.put, sA, sB, sC, i64_w]; rfl
            refine pu 21 (some 158) undef HT_ rfl rfl (by kernel_rfl) (fun _ _ _ h => h) (Or.inr ⟨by rfl, rfl⟩) ?_ ?_ ?_
            rotate_left
            · simp only [Act.put, sA, sB, sC, i64_w]; rfl
            refine pu 22 (some 159) ?_ HT_ rfl rfl (by kernel_rfl) (fun _ _ _ h => h) (Or.inl ⟨by rfl, ?_⟩) ?_ ?_ ?_
            rotate_left
            · intro w'; go_simp; with_reducible rfl
            rotate_left
            · simp only [Act.put, sA, sB, sC, i64_w]; rfl
            refine done_ (done_of HT_.out (by kernel_rfl)) ?_
            go_wp2_with (go_at_call 17; refine (one11_calls _).mono ?_; rintro ev w50 ⟨rfl, hb50⟩)
            go_ret
            exact ⟨rfl, below_step HB23dd.out hb50⟩
          | true =>
            obtain ⟨hlr, hlh, hlg, hln⟩ := HLs.out.2 rfl
            have eh1 : (decide (clT ta ≤ lv) && decide (lv < clT tb)) = true := by simp; omega
            have hh1 := holds_any ta tb lv ⟨hlr.1, by omega⟩
            rw [eh1] at hh1
            have HH1 := Aside0.mk hh1
            have ho6 := of_calls lv M
            rw [clT_id ⟨hlr.1, by omega⟩] at ho6
            have hf6 := (fits_good HL.out hlr HM.out).2 hlg
            obtain ⟨T6, hT6⟩ : ∃ T6, addT lv M = T6 := ⟨_, rfl⟩
            rw [hT6] at ho6 hf6
            have hf6c := fun w' hS => fits_calls p q cc L lv T6 W w' hS HL.out
            rw [hf6] at hf6c
            have HO6 := Aside0.mk ho6
            have HF6 := Aside0.mk hf6c
            have HLN := Aside0.mk hln
            have hwl : IntKind.i64.wrap (lv + 1) = lv + 1 := by rw [IntKind.wrap_i64]; omega
            clear hh1 ho6 hf6 hf6c hT6 hlg hln
            go_wp2_with (go_at_call 22; refine (HLat.out _ _ (FreeIs.made HSrd.out)).mono ?_; rintro ev w23 ⟨rfl, hb23⟩; have HS23 := Aside0.mk (HSrd.out.below hb23); have nA23 := blk_below HArd.out hb23; have HA23 := Aside0.mk nA23; have gW23 : w23.cell? ⟨w.heap.size, 2, none⟩ = some (.int .i64 W) := (blk_cell nA23 2).trans rfl; have gT23 : w23.cell? ⟨w.heap.size, 3, none⟩ = some (.int .i64 ta) := (blk_cell nA23 3).trans rfl; have gU23 : w23.cell? ⟨w.heap.size, 4, none⟩ = some (.int .i64 tb) := (blk_cell nA23 4).trans rfl; have HB23 := Aside0.mk (below_step HBrd.out hb23); clear nA23 hb23)
            have HS23d := Aside0.mk (HS23.out.below (below_drew1 (Below.refl _ _)))
            have HA23d := Aside0.mk (blk_drew HA23.out)
            have HB23d := Aside0.mk (below_drew1 HB23.out)
            have gW23d : w23.drew.cell? ⟨w.heap.size, 2, none⟩ = some (.int .i64 W) := gW23
            have gT23d : w23.drew.cell? ⟨w.heap.size, 3, none⟩ = some (.int .i64 ta) := gT23
            have gU23d : w23.drew.cell? ⟨w.heap.size, 4, none⟩ = some (.int .i64 tb) := gU23
            refine start_ (n := 18) (S := fun w' => w'.cell? ⟨w.heap.size, 2, none⟩ = some (.int .i64 W) ∧ w'.cell? ⟨w.heap.size, 3, none⟩ = some (.int .i64 ta) ∧ w'.cell? ⟨w.heap.size, 4, none⟩ = some (.int .i64 tb)) (ds := []) #[false, false, false, false, false, false, false, false, false, false, false, false, false, false, false, false, false, false] (by kernel_rfl) rfl rfl ⟨gW23, gT23, gU23⟩ (fun hHeld => ?_); refine with_tabW spansRc.tab16 spansRc.bits16 (fun HT_ HW_ => ?_)
            refine pu 0 (some 119) ?_ HT_ rfl rfl (by kernel_rfl) (fun _ _ _ h => h) (Or.inl ⟨by rfl, ?_⟩) ?_ ?_ ?_
            rotate_left
            · intro w'; go_simp; with_reducible rfl
            rotate_left
            · simp only [Act.put, sA, sB, sC, i64_w]; rfl
            refine pu 1 (some 120) ?_ HT_ rfl rfl (by kernel_rfl) (fun _ _ _ h => h) (Or.inl ⟨by rfl, ?_⟩) ?_ ?_ ?_
            rotate_left
            · intro w'; go_simp; with_reducible rfl
            rotate_left
            · simp only [Act.put, sA, sB, sC, i64_w]; rfl
            refine pu 2 (some 121) ?_ HT_ rfl rfl (by kernel_rfl) (fun _ _ _ h => h) (Or.inl ⟨by rfl, ?_⟩) ?_ ?_ ?_
            rotate_left
            · intro w'; go_simp; with_reducible rfl
            rotate_left
            · simp only [Act.put, sA, sB, sC, i64_w]; rfl
            refine pu 4 (some 123) ?_ HT_ rfl rfl (by kernel_rfl) (fun _ _ _ h => h) (Or.inl ⟨by rfl, ?_⟩) ?_ ?_ ?_
            rotate_left
            · intro w'; go_simp; with_reducible rfl
            rotate_left
            · simp only [Act.put, sA, sB, sC, i64_w]; rfl
            refine tk 3 (some 122) ?_ HT_ HW_ rfl rfl (by kernel_rfl) (fun _ _ _ h => h) (Or.inl ⟨by rfl, ?_⟩) hHeld ?_ ?_ ?_
            rotate_left
            · rintro w' ⟨s0, s1, s2⟩; go_simp; with_reducible rfl
            rotate_left
            · simp only [Act.put, sA, sB, sC, i64_w]; rfl
            refine on 5 (some 124) HT_ rfl rfl (by kernel_rfl) (by decide) (fun K hK => ?_)
            refine goes_ Try.func26 (by kernel_rfl) rfl #[.agg #[.int .i64 ta, .int .i64 tb], .int .i64 lv] (by rfl) rfl rfl (by (try simp only [List.map_toArray, List.map_cons, List.map_nil]); first | done | rfl | (simp only [List.length_drop, List.length_take]; rfl)) ?_
            with_reducible refine (HH1.out _).mono ?_
            rintro ev w31 ⟨rfl, hb31⟩
            have HS31 := Aside0.mk (HS23d.out.below hb31)
            have nA31 := blk_below HA23d.out hb31
            have HA31 := Aside0.mk nA31
            have gW31 : w31.cell? ⟨w.heap.size, 2, none⟩ = some (.int .i64 W) := (blk_cell nA31 2).trans rfl
            have gT31 : w31.cell? ⟨w.heap.size, 3, none⟩ = some (.int .i64 ta) := (blk_cell nA31 3).trans rfl
            have gU31 : w31.cell? ⟨w.heap.size, 4, none⟩ = some (.int .i64 tb) := (blk_cell nA31 4).trans rfl
            have HB31 := Aside0.mk (below_step HB23d.out hb31)
            clear nA31 hb31
            refine ⟨_, rfl, ?_⟩
            refine hK.out _ _ ⟨gW31, gT31, gU31⟩ (fun hHeld => ?_)
            clear hK K
            refine norm_ (a' := ?_) ?_ ?_
            rotate_left
            · show Act.put _ (some 124) _ = _; simp only [Act.put, sA, sB, sC, i64_w]; rfl
            refine pu 6 (some 125) ?_ HT_ rfl rfl (by kernel_rfl) (fun _ _ _ h => h) (Or.inl ⟨by rfl, ?_⟩) ?_ ?_ ?_
            rotate_left
            · intro w'; go_simp; with_reducible rfl
            rotate_left
            · simp only [Act.put, sA, sB, sC, i64_w]; rfl
            refine pu 7 (some 126) ?_ HT_ rfl rfl (by kernel_rfl) (fun _ _ _ h => h) (Or.inl ⟨by rfl, ?_⟩) ?_ ?_ ?_
            rotate_left
            · intro w'; go_simp; with_reducible rfl
            rotate_left
            · simp only [Act.put, sA, sB, sC, i64_w]; rfl
            refine pu 8 (some 127) ?_ HT_ rfl rfl (by kernel_rfl) (fun _ _ _ h => h) (Or.inl ⟨by rfl, ?_⟩) ?_ ?_ ?_
            rotate_left
            · intro w'; go_simp; with_reducible rfl
            rotate_left
            · simp only [Act.put, sA, sB, sC, i64_w]; rfl
            refine pu 9 (some 128) ?_ HT_ rfl rfl (by kernel_rfl) (fun _ _ _ h => h) (Or.inl ⟨by rfl, ?_⟩) ?_ ?_ ?_
            rotate_left
            · intro w'; go_simp; with_reducible rfl
            rotate_left
            · simp only [Act.put, sA, sB, sC, i64_w]; rfl
            refine pu 10 (some 129) ?_ HT_ rfl rfl (by kernel_rfl) (fun _ _ _ h => h) (Or.inl ⟨by rfl, ?_⟩) ?_ ?_ ?_
            rotate_left
            · intro w'; go_simp; with_reducible rfl
            rotate_left
            · simp only [Act.put, sA, sB, sC, i64_w]; rfl
            refine pu 12 (some 131) ?_ HT_ rfl rfl (by kernel_rfl) (fun _ _ _ h => h) (Or.inl ⟨by rfl, ?_⟩) ?_ ?_ ?_
            rotate_left
            · intro w'; go_simp; with_reducible rfl
            rotate_left
            · simp only [Act.put, sA, sB, sC, i64_w]; rfl
            refine tk 13 (some 132) ?_ HT_ HW_ rfl rfl (by kernel_rfl) (fun _ _ _ h => h) (Or.inl ⟨by rfl, ?_⟩) hHeld ?_ ?_ ?_
            rotate_left
            · rintro w' ⟨s0, s1, s2⟩; go_simp; with_reducible rfl
            rotate_left
            · simp only [Act.put, sA, sB, sC, i64_w]; rfl
            refine on 11 (some 130) HT_ rfl rfl (by kernel_rfl) (by decide) (fun K hK => ?_)
            refine goes_ Try.func11 (by kernel_rfl) rfl #[.int .i64 lv, .int .i64 M] (by rfl) rfl rfl (by (try simp only [List.map_toArray, List.map_cons, List.map_nil]); first | done | rfl | (simp only [List.length_drop, List.length_take]; rfl)) ?_
            with_reducible refine (HO6.out _).mono ?_
            rintro ev w32 ⟨rfl, hb32⟩
            have HS32 := Aside0.mk (HS31.out.below hb32)
            have nA32 := blk_below HA31.out hb32
            have HA32 := Aside0.mk nA32
            have gW32 : w32.cell? ⟨w.heap.size, 2, none⟩ = some (.int .i64 W) := (blk_cell nA32 2).trans rfl
            have gT32 : w32.cell? ⟨w.heap.size, 3, none⟩ = some (.int .i64 ta) := (blk_cell nA32 3).trans rfl
            have gU32 : w32.cell? ⟨w.heap.size, 4, none⟩ = some (.int .i64 tb) := (blk_cell nA32 4).trans rfl
            have HB32 := Aside0.mk (below_step HB31.out hb32)
            clear nA32 hb32
            refine ⟨_, rfl, ?_⟩
            refine hK.out _ _ ⟨gW32, gT32, gU32⟩ (fun hHeld => ?_)
            clear hK K
            refine norm_ (a' := ?_) ?_ ?_
            rotate_left
            · show Act.put _ (some 130) _ = _; simp only [Act.put, sA, sB, sC, i64_w]; rfl
            refine on 14 (some 133) HT_ rfl rfl (by kernel_rfl) (by decide) (fun K hK => ?_)
            refine goes_ Try.func10 (by kernel_rfl) rfl #[.pointer (some ⟨p, 0, none⟩), .agg #[.int .i64 lv, .int .i64 T6], .int .i64 W] (by rfl) rfl rfl (by (try simp only [List.map_toArray, List.map_cons, List.map_nil]); first | done | rfl | (simp only [List.length_drop, List.length_take]; rfl)) ?_
            with_reducible refine (HF6.out _ HS32.out).mono ?_
            rintro ev w33 ⟨rfl, hb33⟩
            have HS33 := Aside0.mk (HS32.out.below hb33)
            have nA33 := blk_below HA32.out hb33
            have HA33 := Aside0.mk nA33
            have gW33 : w33.cell? ⟨w.heap.size, 2, none⟩ = some (.int .i64 W) := (blk_cell nA33 2).trans rfl
            have gT33 : w33.cell? ⟨w.heap.size, 3, none⟩ = some (.int .i64 ta) := (blk_cell nA33 3).trans rfl
            have gU33 : w33.cell? ⟨w.heap.size, 4, none⟩ = some (.int .i64 tb) := (blk_cell nA33 4).trans rfl
            have HB33 := Aside0.mk (below_step HB32.out hb33)
            clear nA33 hb33
            refine ⟨_, rfl, ?_⟩
            refine hK.out _ _ ⟨gW33, gT33, gU33⟩ (fun hHeld => ?_)
            clear hK K
            refine norm_ (a' := ?_) ?_ ?_
            rotate_left
            · show Act.put _ (some 133) _ = _; simp only [Act.put, sA, sB, sC, i64_w]; rfl
            refine pu 15 (some 134) ?_ HT_ rfl rfl (by kernel_rfl) (fun _ _ _ h => h) (Or.inl ⟨by rfl, ?_⟩) ?_ ?_ ?_
            rotate_left
            · intro w'; go_simp; with_reducible rfl
            rotate_left
            · simp only [Act.put, sA, sB, sC, i64_w]; rfl
            refine pu 16 (some 135) ?_ HT_ rfl rfl (by kernel_rfl) (fun _ _ _ h => h) (Or.inl ⟨by rfl, ?_⟩) ?_ ?_ ?_
            rotate_left
            · intro w'; go_simp; with_reducible rfl
            rotate_left
            · simp only [Act.put, sA, sB, sC, i64_w]; rfl
            refine pu 17 (some 136) ?_ HT_ rfl rfl (by kernel_rfl) (fun _ _ _ h => h) (Or.inl ⟨by rfl, ?_⟩) ?_ ?_ ?_
            rotate_left
            · intro w'; go_simp; with_reducible rfl
            rotate_left
            · simp only [Act.put, sA, sB, sC, i64_w]; rfl
            refine done_ (done_of HT_.out (by kernel_rfl)) ?_
            go_wp2
            by_cases hn1 : lv + 1 < 1099511627776
            · have en1 : decide (lv + 1 < 1099511627776) = true := by simp; omega
              by_cases hn2 : lv + 1 < clT tb
              · have eh2 : (decide (clT ta ≤ lv + 1) && decide (lv + 1 < clT tb)) = true := by simp; omega
                have hh2 := holds_any ta tb (lv + 1) ⟨by omega, by omega⟩
                rw [eh2] at hh2
                have HH2 := Aside0.mk hh2
                have ho7 := of_calls (lv + 1) M
                rw [clT_id ⟨by omega, by omega⟩] at ho7
                have hf7 : fitsL L (lv + 1) (addT (lv + 1) M) W = false := Bool.eq_false_iff.2 (fun hh => HLN.out hn1 hn2 ((fits_good HL.out ⟨by omega, hn1⟩ HM.out).1 hh))
                obtain ⟨T7, hT7⟩ : ∃ T7, addT (lv + 1) M = T7 := ⟨_, rfl⟩
                rw [hT7] at ho7 hf7
                have hf7c := fun w' hS => fits_calls p q cc L (lv + 1) T7 W w' hS HL.out
                rw [hf7] at hf7c
                have HO7 := Aside0.mk ho7
                have HF7 := Aside0.mk hf7c
                clear hh2 ho7 hf7 hf7c hT7 eh2 hn1 hn2
                have HS33d := Aside0.mk (HS33.out.below (below_drew1 (Below.refl _ _)))
                have HA33d := Aside0.mk (blk_drew HA33.out)
                have HB33d := Aside0.mk (below_drew1 HB33.out)
                have gW33d : w33.drew.cell? ⟨w.heap.size, 2, none⟩ = some (.int .i64 W) := gW33
                have gT33d : w33.drew.cell? ⟨w.heap.size, 3, none⟩ = some (.int .i64 ta) := gT33
                have gU33d : w33.drew.cell? ⟨w.heap.size, 4, none⟩ = some (.int .i64 tb) := gU33
                refine start_ (n := 23) (S := fun w' => w'.cell? ⟨w.heap.size, 2, none⟩ = some (.int .i64 W) ∧ w'.cell? ⟨w.heap.size, 3, none⟩ = some (.int .i64 ta) ∧ w'.cell? ⟨w.heap.size, 4, none⟩ = some (.int .i64 tb)) (ds := []) #[false, false, false, false, false, false, false, false, false, false, false, false, false, false, false, false, false, false, false, false, false, false, false] (by kernel_rfl) rfl rfl ⟨gW33, gT33, gU33⟩ (fun hHeld => ?_); refine with_tabW spansRd.tab18 spansRd.bits18 (fun HT_ HW_ => ?_)
                refine pu 0 (some 137) ?_ HT_ rfl rfl (by kernel_rfl) (fun _ _ _ h => h) (Or.inl ⟨by rfl, ?_⟩) ?_ ?_ ?_
                rotate_left
                · intro w'; go_simp; with_reducible rfl
                rotate_left
                · simp only [Act.put, sA, sB, sC, i64_w]; rfl
                refine pu 1 (some 138) ?_ HT_ rfl rfl (by kernel_rfl) (fun _ _ _ h => h) (Or.inl ⟨by rfl, ?_⟩) ?_ ?_ ?_
                rotate_left
                · intro w'; go_simp; with_reducible rfl
                rotate_left
                · simp only [Act.put, sA, sB, sC, i64_w]; rfl
                refine pu 2 (some 139) ?_ HT_ rfl rfl (by kernel_rfl) (fun _ _ _ h => h) (Or.inl ⟨by rfl, ?_⟩) ?_ ?_ ?_
                rotate_left
                · intro w'; go_simp; with_reducible rfl
                rotate_left
                · simp only [Act.put, sA, sB, sC, i64_w]; rfl
                refine pu 3 (some 140) ?_ HT_ rfl rfl (by kernel_rfl) (fun _ _ _ h => h) (Or.inl ⟨by rfl, ?_⟩) ?_ ?_ ?_
                rotate_left
                · intro w'; go_simp; with_reducible rfl
                rotate_left
                · simp only [Act.put, sA, sB, sC, i64_w]; rfl
                refine pu 4 (some 141) ?_ HT_ rfl rfl (by kernel_rfl) (fun _ _ _ h => h) (Or.inl ⟨by rfl, ?_⟩) ?_ ?_ ?_
                rotate_left
                · intro w'; go_simp; with_reducible rfl
                rotate_left
                · simp only [Act.put, sA, sB, sC, i64_w]; rfl
                refine pu 5 (some 142) ?_ HT_ rfl rfl (by kernel_rfl) (fun _ _ _ h => h) (Or.inl ⟨by rfl, ?_⟩) ?_ ?_ ?_
                rotate_left
                · intro w'; go_simp; with_reducible rfl
                rotate_left
                · simp only [Act.put, sA, sB, sC, i64_w]; rfl
                refine pu 6 (some 143) ?_ HT_ rfl rfl (by kernel_rfl) (fun _ _ _ h => h) (Or.inl ⟨by rfl, ?_⟩) ?_ ?_ ?_
                rotate_left
                · intro w'; go_simp; with_reducible rfl
                rotate_left
                · simp only [Act.put, sA, sB, sC, i64_w]; rfl
                refine pu 7 (some 144) ?_ HT_ rfl rfl (by kernel_rfl) (fun _ _ _ h => h) (Or.inl ⟨by rfl, ?_⟩) ?_ ?_ ?_
                rotate_left
                · intro w'; go_simp; with_reducible rfl
                rotate_left
                · simp only [Act.put, sA, sB, sC, i64_w]; rfl
                refine pu 9 (some 146) ?_ HT_ rfl rfl (by kernel_rfl) (fun _ _ _ h => h) (Or.inl ⟨by rfl, ?_⟩) ?_ ?_ ?_
                rotate_left
                · intro w'; go_simp; with_reducible rfl
                rotate_left
                · simp only [Act.put, sA, sB, sC, i64_w]; rfl
                refine pu 10 (some 147) ?_ HT_ rfl rfl (by kernel_rfl) (fun _ _ _ h => h) (Or.inl ⟨by rfl, ?_⟩) ?_ ?_ ?_
                rotate_left
                · intro w'; go_simp; with_reducible rfl
                rotate_left
                · simp only [Act.put, sA, sB, sC, i64_w]; rfl
                refine tk 8 (some 145) ?_ HT_ HW_ rfl rfl (by kernel_rfl) (fun _ _ _ h => h) (Or.inl ⟨by rfl, ?_⟩) hHeld ?_ ?_ ?_
                rotate_left
                · rintro w' ⟨s0, s1, s2⟩; go_simp; with_reducible rfl
                rotate_left
                · simp only [Act.put, sA, sB, sC, i64_w]; rfl
                refine on 11 (some 148) HT_ rfl rfl (by kernel_rfl) (by decide) (fun K hK => ?_)
                refine goes_ Try.func26 (by kernel_rfl) rfl #[.agg #[.int .i64 ta, .int .i64 tb], .int .i64 (lv + 1)] (by rfl) rfl rfl (by (try simp only [List.map_toArray, List.map_cons, List.map_nil]); first | done | rfl | (simp only [List.length_drop, List.length_take]; rfl)) ?_
                with_reducible refine (HH2.out _).mono ?_
                rintro ev w41 ⟨rfl, hb41⟩
                have HS41 := Aside0.mk (HS33d.out.below hb41)
                have nA41 := blk_below HA33d.out hb41
                have HA41 := Aside0.mk nA41
                have gW41 : w41.cell? ⟨w.heap.size, 2, none⟩ = some (.int .i64 W) := (blk_cell nA41 2).trans rfl
                have gT41 : w41.cell? ⟨w.heap.size, 3, none⟩ = some (.int .i64 ta) := (blk_cell nA41 3).trans rfl
                have gU41 : w41.cell? ⟨w.heap.size, 4, none⟩ = some (.int .i64 tb) := (blk_cell nA41 4).trans rfl
                have HB41 := Aside0.mk (below_step HB33d.out hb41)
                clear nA41 hb41
                refine ⟨_, rfl, ?_⟩
                refine hK.out _ _ ⟨gW41, gT41, gU41⟩ (fun hHeld => ?_)
                clear hK K
                refine norm_ (a' := ?_) ?_ ?_
                rotate_left
                · show Act.put _ (some 148) _ = _; simp only [Act.put, sA, sB, sC, i64_w]; rfl
                refine pu 12 (some 149) ?_ HT_ rfl rfl (by kernel_rfl) (fun _ _ _ h => h) (Or.inl ⟨by rfl, ?_⟩) ?_ ?_ ?_
                rotate_left
                · intro w'; go_simp; with_reducible rfl
                rotate_left
                · simp only [Act.put, sA, sB, sC, i64_w]; rfl
                refine pu 13 (some 150) ?_ HT_ rfl rfl (by kernel_rfl) (fun _ _ _ h => h) (Or.inl ⟨by rfl, ?_⟩) ?_ ?_ ?_
                rotate_left
                · intro w'; go_simp; with_reducible rfl
                rotate_left
                · simp only [Act.put, sA, sB, sC, i64_w]; rfl
                refine pu 14 (some 151) ?_ HT_ rfl rfl (by kernel_rfl) (fun _ _ _ h => h) (Or.inl ⟨by rfl, ?_⟩) ?_ ?_ ?_
                rotate_left
                · intro w'; go_simp; with_reducible rfl
                rotate_left
                · simp only [Act.put, sA, sB, sC, i64_w]; rfl
                refine pu 15 (some 152) ?_ HT_ rfl rfl (by kernel_rfl) (fun _ _ _ h => h) (Or.inl ⟨by rfl, ?_⟩) ?_ ?_ ?_
                rotate_left
                · intro w'; go_simp; with_reducible rfl
                rotate_left
                · simp only [Act.put, sA, sB, sC, i64_w]; rfl
                refine pu 16 (some 153) ?_ HT_ rfl rfl (by kernel_rfl) (fun _ _ _ h => h) (Or.inl ⟨by rfl, ?_⟩) ?_ ?_ ?_
                rotate_left
                · intro w'; go_simp; with_reducible rfl
                rotate_left
                · simp only [Act.put, sA, sB, sC, i64_w]; rfl
                refine pu 17 (some 154) ?_ HT_ rfl rfl (by kernel_rfl) (fun _ _ _ h => h) (Or.inl ⟨by rfl, ?_⟩) ?_ ?_ ?_
                rotate_left
                · intro w'; go_simp; with_reducible rfl
                rotate_left
                · simp only [Act.put, sA, sB, sC, i64_w]; rfl
                refine pu 19 (some 156) ?_ HT_ rfl rfl (by kernel_rfl) (fun _ _ _ h => h) (Or.inl ⟨by rfl, ?_⟩) ?_ ?_ ?_
                rotate_left
                · intro w'; go_simp; with_reducible rfl
                rotate_left
                · simp only [Act.put, sA, sB, sC, i64_w]; rfl
                refine tk 20 (some 157) ?_ HT_ HW_ rfl rfl (by kernel_rfl) (fun _ _ _ h => h) (Or.inl ⟨by rfl, ?_⟩) hHeld ?_ ?_ ?_
                rotate_left
                · rintro w' ⟨s0, s1, s2⟩; go_simp; with_reducible rfl
                rotate_left
                · simp only [Act.put, sA, sB, sC, i64_w]; rfl
                refine on 18 (some 155) HT_ rfl rfl (by kernel_rfl) (by decide) (fun K hK => ?_)
                refine goes_ Try.func11 (by kernel_rfl) rfl #[.int .i64 (lv + 1), .int .i64 M] (by rfl) rfl rfl (by (try simp only [List.map_toArray, List.map_cons, List.map_nil]); first | done | rfl | (simp only [List.length_drop, List.length_take]; rfl)) ?_
                with_reducible refine (HO7.out _).mono ?_
                rintro ev w42 ⟨rfl, hb42⟩
                have HS42 := Aside0.mk (HS41.out.below hb42)
                have nA42 := blk_below HA41.out hb42
                have HA42 := Aside0.mk nA42
                have gW42 : w42.cell? ⟨w.heap.size, 2, none⟩ = some (.int .i64 W) := (blk_cell nA42 2).trans rfl
                have gT42 : w42.cell? ⟨w.heap.size, 3, none⟩ = some (.int .i64 ta) := (blk_cell nA42 3).trans rfl
                have gU42 : w42.cell? ⟨w.heap.size, 4, none⟩ = some (.int .i64 tb) := (blk_cell nA42 4).trans rfl
                have HB42 := Aside0.mk (below_step HB41.out hb42)
                clear nA42 hb42
                refine ⟨_, rfl, ?_⟩
                refine hK.out _ _ ⟨gW42, gT42, gU42⟩ (fun hHeld => ?_)
                clear hK K
                refine norm_ (a' := ?_) ?_ ?_
                rotate_left
                · show Act.put _ (some 155) _ = _; simp only [Act.put, sA, sB, sC, i64_w]; rfl
                refine on 21 (some 158) HT_ rfl rfl (by kernel_rfl) (by decide) (fun K hK => ?_)
                refine goes_ Try.func10 (by kernel_rfl) rfl #[.pointer (some ⟨p, 0, none⟩), .agg #[.int .i64 (lv + 1), .int .i64 T7], .int .i64 W] (by rfl) rfl rfl (by (try simp only [List.map_toArray, List.map_cons, List.map_nil]); first | done | rfl | (simp only [List.length_drop, List.length_take]; rfl)) ?_
                with_reducible refine (HF7.out _ HS42.out).mono ?_
                rintro ev w43 ⟨rfl, hb43⟩
                have HS43 := Aside0.mk (HS42.out.below hb43)
                have nA43 := blk_below HA42.out hb43
                have HA43 := Aside0.mk nA43
                have gW43 : w43.cell? ⟨w.heap.size, 2, none⟩ = some (.int .i64 W) := (blk_cell nA43 2).trans rfl
                have gT43 : w43.cell? ⟨w.heap.size, 3, none⟩ = some (.int .i64 ta) := (blk_cell nA43 3).trans rfl
                have gU43 : w43.cell? ⟨w.heap.size, 4, none⟩ = some (.int .i64 tb) := (blk_cell nA43 4).trans rfl
                have HB43 := Aside0.mk (below_step HB42.out hb43)
                clear nA43 hb43
                refine ⟨_, rfl, ?_⟩
                refine hK.out _ _ ⟨gW43, gT43, gU43⟩ (fun hHeld => ?_)
                clear hK K
                refine norm_ (a' := ?_) ?_ ?_
                rotate_left
                · show Act.put _ (some 158) _ = _; simp only [Act.put, sA, sB, sC, i64_w]; rfl
                refine pu 22 (some 159) ?_ HT_ rfl rfl (by kernel_rfl) (fun _ _ _ h => h) (Or.inl ⟨by rfl, ?_⟩) ?_ ?_ ?_
                rotate_left
                · intro w'; go_simp; with_reducible rfl
                rotate_left
                · simp only [Act.put, sA, sB, sC, i64_w]; rfl
                refine done_ (done_of HT_.out (by kernel_rfl)) ?_
                go_wp2_with (go_at_call 17; refine (one11_calls _).mono ?_; rintro ev w50 ⟨rfl, hb50⟩)
                go_ret
                exact ⟨rfl, below_step HB43.out hb50⟩
              · have eh2 : (decide (clT ta ≤ lv + 1) && decide (lv + 1 < clT tb)) = false := by simp; omega
                have hh2 := holds_any ta tb (lv + 1) ⟨by omega, by omega⟩
                rw [eh2] at hh2
                have HH2 := Aside0.mk hh2
                clear hh2 eh2 hn1 hn2
                have HS33d := Aside0.mk (HS33.out.below (below_drew1 (Below.refl _ _)))
                have HA33d := Aside0.mk (blk_drew HA33.out)
                have HB33d := Aside0.mk (below_drew1 HB33.out)
                have gW33d : w33.drew.cell? ⟨w.heap.size, 2, none⟩ = some (.int .i64 W) := gW33
                have gT33d : w33.drew.cell? ⟨w.heap.size, 3, none⟩ = some (.int .i64 ta) := gT33
                have gU33d : w33.drew.cell? ⟨w.heap.size, 4, none⟩ = some (.int .i64 tb) := gU33
                refine start_ (n := 23) (S := fun w' => w'.cell? ⟨w.heap.size, 2, none⟩ = some (.int .i64 W) ∧ w'.cell? ⟨w.heap.size, 3, none⟩ = some (.int .i64 ta) ∧ w'.cell? ⟨w.heap.size, 4, none⟩ = some (.int .i64 tb)) (ds := []) #[false, false, false, false, false, false, false, false, false, false, false, false, false, false, false, false, false, false, false, false, false, false, false] (by kernel_rfl) rfl rfl ⟨gW33, gT33, gU33⟩ (fun hHeld => ?_); refine with_tabW spansRd.tab18 spansRd.bits18 (fun HT_ HW_ => ?_)
                refine pu 0 (some 137) ?_ HT_ rfl rfl (by kernel_rfl) (fun _ _ _ h => h) (Or.inl ⟨by rfl, ?_⟩) ?_ ?_ ?_
                rotate_left
                · intro w'; go_simp; with_reducible rfl
                rotate_left
                · simp only [Act.put, sA, sB, sC, i64_w]; rfl
                refine pu 1 (some 138) ?_ HT_ rfl rfl (by kernel_rfl) (fun _ _ _ h => h) (Or.inl ⟨by rfl, ?_⟩) ?_ ?_ ?_
                rotate_left
                · intro w'; go_simp; with_reducible rfl
                rotate_left
                · simp only [Act.put, sA, sB, sC, i64_w]; rfl
                refine pu 2 (some 139) ?_ HT_ rfl rfl (by kernel_rfl) (fun _ _ _ h => h) (Or.inl ⟨by rfl, ?_⟩) ?_ ?_ ?_
                rotate_left
                · intro w'; go_simp; with_reducible rfl
                rotate_left
                · simp only [Act.put, sA, sB, sC, i64_w]; rfl
                refine pu 3 (some 140) ?_ HT_ rfl rfl (by kernel_rfl) (fun _ _ _ h => h) (Or.inl ⟨by rfl, ?_⟩) ?_ ?_ ?_
                rotate_left
                · intro w'; go_simp; with_reducible rfl
                rotate_left
                · simp only [Act.put, sA, sB, sC, i64_w]; rfl
                refine pu 4 (some 141) ?_ HT_ rfl rfl (by kernel_rfl) (fun _ _ _ h => h) (Or.inl ⟨by rfl, ?_⟩) ?_ ?_ ?_
                rotate_left
                · intro w'; go_simp; with_reducible rfl
                rotate_left
                · simp only [Act.put, sA, sB, sC, i64_w]; rfl
                refine pu 5 (some 142) ?_ HT_ rfl rfl (by kernel_rfl) (fun _ _ _ h => h) (Or.inl ⟨by rfl, ?_⟩) ?_ ?_ ?_
                rotate_left
                · intro w'; go_simp; with_reducible rfl
                rotate_left
                · simp only [Act.put, sA, sB, sC, i64_w]; rfl
                refine pu 6 (some 143) ?_ HT_ rfl rfl (by kernel_rfl) (fun _ _ _ h => h) (Or.inl ⟨by rfl, ?_⟩) ?_ ?_ ?_
                rotate_left
                · intro w'; go_simp; with_reducible rfl
                rotate_left
                · simp only [Act.put, sA, sB, sC, i64_w]; rfl
                refine pu 7 (some 144) ?_ HT_ rfl rfl (by kernel_rfl) (fun _ _ _ h => h) (Or.inl ⟨by rfl, ?_⟩) ?_ ?_ ?_
                rotate_left
                · intro w'; go_simp; with_reducible rfl
                rotate_left
                · simp only [Act.put, sA, sB, sC, i64_w]; rfl
                refine pu 9 (some 146) ?_ HT_ rfl rfl (by kernel_rfl) (fun _ _ _ h => h) (Or.inl ⟨by rfl, ?_⟩) ?_ ?_ ?_
                rotate_left
                · intro w'; go_simp; with_reducible rfl
                rotate_left
                · simp only [Act.put, sA, sB, sC, i64_w]; rfl
                refine pu 10 (some 147) ?_ HT_ rfl rfl (by kernel_rfl) (fun _ _ _ h => h) (Or.inl ⟨by rfl, ?_⟩) ?_ ?_ ?_
                rotate_left
                · intro w'; go_simp; with_reducible rfl
                rotate_left
                · simp only [Act.put, sA, sB, sC, i64_w]; rfl
                refine tk 8 (some 145) ?_ HT_ HW_ rfl rfl (by kernel_rfl) (fun _ _ _ h => h) (Or.inl ⟨by rfl, ?_⟩) hHeld ?_ ?_ ?_
                rotate_left
                · rintro w' ⟨s0, s1, s2⟩; go_simp; with_reducible rfl
                rotate_left
                · simp only [Act.put, sA, sB, sC, i64_w]; rfl
                refine on 11 (some 148) HT_ rfl rfl (by kernel_rfl) (by decide) (fun K hK => ?_)
                refine goes_ Try.func26 (by kernel_rfl) rfl #[.agg #[.int .i64 ta, .int .i64 tb], .int .i64 (lv + 1)] (by rfl) rfl rfl (by (try simp only [List.map_toArray, List.map_cons, List.map_nil]); first | done | rfl | (simp only [List.length_drop, List.length_take]; rfl)) ?_
                with_reducible refine (HH2.out _).mono ?_
                rintro ev w41 ⟨rfl, hb41⟩
                have HS41 := Aside0.mk (HS33d.out.below hb41)
                have nA41 := blk_below HA33d.out hb41
                have HA41 := Aside0.mk nA41
                have gW41 : w41.cell? ⟨w.heap.size, 2, none⟩ = some (.int .i64 W) := (blk_cell nA41 2).trans rfl
                have gT41 : w41.cell? ⟨w.heap.size, 3, none⟩ = some (.int .i64 ta) := (blk_cell nA41 3).trans rfl
                have gU41 : w41.cell? ⟨w.heap.size, 4, none⟩ = some (.int .i64 tb) := (blk_cell nA41 4).trans rfl
                have HB41 := Aside0.mk (below_step HB33d.out hb41)
                clear nA41 hb41
                refine ⟨_, rfl, ?_⟩
                refine hK.out _ _ ⟨gW41, gT41, gU41⟩ (fun hHeld => ?_)
                clear hK K
                refine norm_ (a' := ?_) ?_ ?_
                rotate_left
                · show Act.put _ (some 148) _ = _; simp only [Act.put, sA, sB, sC, i64_w]; rfl
                refine pu 12 (some 149) ?_ HT_ rfl rfl (by kernel_rfl) (fun _ _ _ h => h) (Or.inl ⟨by rfl, ?_⟩) ?_ ?_ ?_
                rotate_left
                · intro w'; go_simp; with_reducible rfl
                rotate_left
                · simp only [Act.put, sA, sB, sC, i64_w]; rfl
                refine pu 13 (some 150) ?_ HT_ rfl rfl (by kernel_rfl) (fun _ _ _ h => h) (Or.inl ⟨by rfl, ?_⟩) ?_ ?_ ?_
                rotate_left
                · intro w'; go_simp; with_reducible rfl
                rotate_left
                · simp only [Act.put, sA, sB, sC, i64_w]; rfl
                refine pu 14 (some 151) undef HT_ rfl rfl (by kernel_rfl) (fun _ _ _ h => h) (Or.inr ⟨by rfl, rfl⟩) ?_ ?_ ?_
                rotate_left
                · simp only [Act.put, sA, sB, sC, i64_w]; rfl
                refine pu 15 (some 152) undef HT_ rfl rfl (by kernel_rfl) (fun _ _ _ h => h) (Or.inr ⟨by rfl, rfl⟩) ?_ ?_ ?_
                rotate_left
                · simp only [Act.put, sA, sB, sC, i64_w]; rfl
                refine pu 16 (some 153) undef HT_ rfl rfl (by kernel_rfl) (fun _ _ _ h => h) (Or.inr ⟨by rfl, rfl⟩) ?_ ?_ ?_
                rotate_left
                · simp only [Act.put, sA, sB, sC, i64_w]; rfl
                refine pu 17 (some 154) undef HT_ rfl rfl (by kernel_rfl) (fun _ _ _ h => h) (Or.inr ⟨by rfl, rfl⟩) ?_ ?_ ?_
                rotate_left
                · simp only [Act.put, sA, sB, sC, i64_w]; rfl
                refine pu 18 (some 155) undef HT_ rfl rfl (by kernel_rfl) (fun _ _ _ h => h) (Or.inr ⟨by rfl, rfl⟩) ?_ ?_ ?_
                rotate_left
                · simp only [Act.put, sA, sB, sC, i64_w]; rfl
                refine pu 19 (some 156) undef HT_ rfl rfl (by kernel_rfl) (fun _ _ _ h => h) (Or.inr ⟨by rfl, rfl⟩) ?_ ?_ ?_
                rotate_left
                · simp only [Act.put, sA, sB, sC, i64_w]; rfl
                refine pu 20 (some 157) undef HT_ rfl rfl (by kernel_rfl) (fun _ _ _ h => h) (Or.inr ⟨by rfl, rfl⟩) ?_ ?_ ?_
                rotate_left
                · simp only [Act.put, sA, sB, sC, i64_w]; rfl
                refine pu 21 (some 158) undef HT_ rfl rfl (by kernel_rfl) (fun _ _ _ h => h) (Or.inr ⟨by rfl, rfl⟩) ?_ ?_ ?_
                rotate_left
                · simp only [Act.put, sA, sB, sC, i64_w]; rfl
                refine pu 22 (some 159) ?_ HT_ rfl rfl (by kernel_rfl) (fun _ _ _ h => h) (Or.inl ⟨by rfl, ?_⟩) ?_ ?_ ?_
                rotate_left
                · intro w'; go_simp; with_reducible rfl
                rotate_left
                · simp only [Act.put, sA, sB, sC, i64_w]; rfl
                refine done_ (done_of HT_.out (by kernel_rfl)) ?_
                go_wp2_with (go_at_call 17; refine (one11_calls _).mono ?_; rintro ev w50 ⟨rfl, hb50⟩)
                go_ret
                exact ⟨rfl, below_step HB41.out hb50⟩
            · have en1 : decide (lv + 1 < 1099511627776) = false := by simp; omega
              clear hn1
              have HS33d := Aside0.mk (HS33.out.below (below_drew1 (Below.refl _ _)))
              have HA33d := Aside0.mk (blk_drew HA33.out)
              have HB33d := Aside0.mk (below_drew1 HB33.out)
              have gW33d : w33.drew.cell? ⟨w.heap.size, 2, none⟩ = some (.int .i64 W) := gW33
              have gT33d : w33.drew.cell? ⟨w.heap.size, 3, none⟩ = some (.int .i64 ta) := gT33
              have gU33d : w33.drew.cell? ⟨w.heap.size, 4, none⟩ = some (.int .i64 tb) := gU33
              refine start_ (n := 23) (S := fun w' => w'.cell? ⟨w.heap.size, 2, none⟩ = some (.int .i64 W) ∧ w'.cell? ⟨w.heap.size, 3, none⟩ = some (.int .i64 ta) ∧ w'.cell? ⟨w.heap.size, 4, none⟩ = some (.int .i64 tb)) (ds := []) #[false, false, false, false, false, false, false, false, false, false, false, false, false, false, false, false, false, false, false, false, false, false, false] (by kernel_rfl) rfl rfl ⟨gW33, gT33, gU33⟩ (fun hHeld => ?_); refine with_tabW spansRd.tab18 spansRd.bits18 (fun HT_ HW_ => ?_)
              refine pu 0 (some 137) ?_ HT_ rfl rfl (by kernel_rfl) (fun _ _ _ h => h) (Or.inl ⟨by rfl, ?_⟩) ?_ ?_ ?_
              rotate_left
              · intro w'; go_simp; with_reducible rfl
              rotate_left
              · simp only [Act.put, sA, sB, sC, i64_w]; rfl
              refine pu 1 (some 138) ?_ HT_ rfl rfl (by kernel_rfl) (fun _ _ _ h => h) (Or.inl ⟨by rfl, ?_⟩) ?_ ?_ ?_
              rotate_left
              · intro w'; go_simp; with_reducible rfl
              rotate_left
              · simp only [Act.put, sA, sB, sC, i64_w]; rfl
              refine pu 2 (some 139) ?_ HT_ rfl rfl (by kernel_rfl) (fun _ _ _ h => h) (Or.inl ⟨by rfl, ?_⟩) ?_ ?_ ?_
              rotate_left
              · intro w'; go_simp; with_reducible rfl
              rotate_left
              · simp only [Act.put, sA, sB, sC, i64_w]; rfl
              refine pu 3 (some 140) ?_ HT_ rfl rfl (by kernel_rfl) (fun _ _ _ h => h) (Or.inl ⟨by rfl, ?_⟩) ?_ ?_ ?_
              rotate_left
              · intro w'; go_simp; with_reducible rfl
              rotate_left
              · simp only [Act.put, sA, sB, sC, i64_w]; rfl
              refine pu 4 (some 141) ?_ HT_ rfl rfl (by kernel_rfl) (fun _ _ _ h => h) (Or.inl ⟨by rfl, ?_⟩) ?_ ?_ ?_
              rotate_left
              · intro w'; go_simp; with_reducible rfl
              rotate_left
              · simp only [Act.put, sA, sB, sC, i64_w]; rfl
              refine pu 5 (some 142) ?_ HT_ rfl rfl (by kernel_rfl) (fun _ _ _ h => h) (Or.inl ⟨by rfl, ?_⟩) ?_ ?_ ?_
              rotate_left
              · intro w'; go_simp; with_reducible rfl
              rotate_left
              · simp only [Act.put, sA, sB, sC, i64_w]; rfl
              refine pu 6 (some 143) ?_ HT_ rfl rfl (by kernel_rfl) (fun _ _ _ h => h) (Or.inl ⟨by rfl, ?_⟩) ?_ ?_ ?_
              rotate_left
              · intro w'; go_simp; with_reducible rfl
              rotate_left
              · simp only [Act.put, sA, sB, sC, i64_w]; rfl
              refine pu 7 (some 144) undef HT_ rfl rfl (by kernel_rfl) (fun _ _ _ h => h) (Or.inr ⟨by rfl, rfl⟩) ?_ ?_ ?_
              rotate_left
              · simp only [Act.put, sA, sB, sC, i64_w]; rfl
              refine pu 8 (some 145) undef HT_ rfl rfl (by kernel_rfl) (fun _ _ _ h => h) (Or.inr ⟨by rfl, rfl⟩) ?_ ?_ ?_
              rotate_left
              · simp only [Act.put, sA, sB, sC, i64_w]; rfl
              refine pu 9 (some 146) undef HT_ rfl rfl (by kernel_rfl) (fun _ _ _ h => h) (Or.inr ⟨by rfl, rfl⟩) ?_ ?_ ?_
              rotate_left
              · simp only [Act.put, sA, sB, sC, i64_w]; rfl
              refine pu 10 (some 147) undef HT_ rfl rfl (by kernel_rfl) (fun _ _ _ h => h) (Or.inr ⟨by rfl, rfl⟩) ?_ ?_ ?_
              rotate_left
              · simp only [Act.put, sA, sB, sC, i64_w]; rfl
              refine pu 11 (some 148) undef HT_ rfl rfl (by kernel_rfl) (fun _ _ _ h => h) (Or.inr ⟨by rfl, rfl⟩) ?_ ?_ ?_
              rotate_left
              · simp only [Act.put, sA, sB, sC, i64_w]; rfl
              refine pu 12 (some 149) ?_ HT_ rfl rfl (by kernel_rfl) (fun _ _ _ h => h) (Or.inl ⟨by rfl, ?_⟩) ?_ ?_ ?_
              rotate_left
              · intro w'; go_simp; with_reducible rfl
              rotate_left
              · simp only [Act.put, sA, sB, sC, i64_w]; rfl
              refine pu 13 (some 150) ?_ HT_ rfl rfl (by kernel_rfl) (fun _ _ _ h => h) (Or.inl ⟨by rfl, ?_⟩) ?_ ?_ ?_
              rotate_left
              · intro w'; go_simp; with_reducible rfl
              rotate_left
              · simp only [Act.put, sA, sB, sC, i64_w]; rfl
              refine pu 14 (some 151) undef HT_ rfl rfl (by kernel_rfl) (fun _ _ _ h => h) (Or.inr ⟨by rfl, rfl⟩) ?_ ?_ ?_
              rotate_left
              · simp only [Act.put, sA, sB, sC, i64_w]; rfl
              refine pu 15 (some 152) undef HT_ rfl rfl (by kernel_rfl) (fun _ _ _ h => h) (Or.inr ⟨by rfl, rfl⟩) ?_ ?_ ?_
              rotate_left
              · simp only [Act.put, sA, sB, sC, i64_w]; rfl
              refine pu 16 (some 153) undef HT_ rfl rfl (by kernel_rfl) (fun _ _ _ h => h) (Or.inr ⟨by rfl, rfl⟩) ?_ ?_ ?_
              rotate_left
              · simp only [Act.put, sA, sB, sC, i64_w]; rfl
              refine pu 17 (some 154) undef HT_ rfl rfl (by kernel_rfl) (fun _ _ _ h => h) (Or.inr ⟨by rfl, rfl⟩) ?_ ?_ ?_
              rotate_left
              · simp only [Act.put, sA, sB, sC, i64_w]; rfl
              refine pu 18 (some 155) undef HT_ rfl rfl (by kernel_rfl) (fun _ _ _ h => h) (Or.inr ⟨by rfl, rfl⟩) ?_ ?_ ?_
              rotate_left
              · simp only [Act.put, sA, sB, sC, i64_w]; rfl
              refine pu 19 (some 156) undef HT_ rfl rfl (by kernel_rfl) (fun _ _ _ h => h) (Or.inr ⟨by rfl, rfl⟩) ?_ ?_ ?_
              rotate_left
              · simp only [Act.put, sA, sB, sC, i64_w]; rfl
              refine pu 20 (some 157) undef HT_ rfl rfl (by kernel_rfl) (fun _ _ _ h => h) (Or.inr ⟨by rfl, rfl⟩) ?_ ?_ ?_
              rotate_left
              · simp only [Act.put, sA, sB, sC, i64_w]; rfl
              refine pu 21 (some 158) undef HT_ rfl rfl (by kernel_rfl) (fun _ _ _ h => h) (Or.inr ⟨by rfl, rfl⟩) ?_ ?_ ?_
              rotate_left
              · simp only [Act.put, sA, sB, sC, i64_w]; rfl
              refine pu 22 (some 159) ?_ HT_ rfl rfl (by kernel_rfl) (fun _ _ _ h => h) (Or.inl ⟨by rfl, ?_⟩) ?_ ?_ ?_
              rotate_left
              · intro w'; go_simp; with_reducible rfl
              rotate_left
              · simp only [Act.put, sA, sB, sC, i64_w]; rfl
              refine done_ (done_of HT_.out (by kernel_rfl)) ?_
              go_wp2_with (go_at_call 17; refine (one11_calls _).mono ?_; rintro ev w50 ⟨rfl, hb50⟩)
              go_ret
              exact ⟨rfl, below_step HB33d.out hb50⟩
      · have eT : decide (T < 1099511627776) = false := by simp; omega
        clear hTn
        go_wp2
        have HSrd := Aside0.mk (HSr.out.below (below_drew1 (Below.refl _ _)))
        have HArd := Aside0.mk (blk_drew HAr.out)
        have HBrd := Aside0.mk (below_drew1 HBr.out)
        have gWrd : wr.drew.cell? ⟨w.heap.size, 2, none⟩ = some (.int .i64 W) := gWr
        have gTrd : wr.drew.cell? ⟨w.heap.size, 3, none⟩ = some (.int .i64 ta) := gTr
        have gUrd : wr.drew.cell? ⟨w.heap.size, 4, none⟩ = some (.int .i64 tb) := gUr
        refine start_ (n := 18) (S := fun w' => w'.cell? ⟨w.heap.size, 2, none⟩ = some (.int .i64 W) ∧ w'.cell? ⟨w.heap.size, 3, none⟩ = some (.int .i64 ta) ∧ w'.cell? ⟨w.heap.size, 4, none⟩ = some (.int .i64 tb)) (ds := []) #[false, false, false, false, false, false, false, false, false, false, false, false, false, false, false, false, false, false] (by kernel_rfl) rfl rfl ⟨gWr, gTr, gUr⟩ (fun hHeld => ?_); refine with_tabW spansRb.tab13 spansRb.bits13 (fun HT_ HW_ => ?_)
        refine pu 0 (some 91) ?_ HT_ rfl rfl (by kernel_rfl) (fun _ _ _ h => h) (Or.inl ⟨by rfl, ?_⟩) ?_ ?_ ?_
        rotate_left
        · intro w'; go_simp; with_reducible rfl
        rotate_left
        · simp only [Act.put, sA, sB, sC, i64_w]; rfl
        refine pu 1 (some 92) ?_ HT_ rfl rfl (by kernel_rfl) (fun _ _ _ h => h) (Or.inl ⟨by rfl, ?_⟩) ?_ ?_ ?_
        rotate_left
        · intro w'; go_simp; with_reducible rfl
        rotate_left
        · simp only [Act.put, sA, sB, sC, i64_w]; rfl
        refine pu 2 (some 93) ?_ HT_ rfl rfl (by kernel_rfl) (fun _ _ _ h => h) (Or.inl ⟨by rfl, ?_⟩) ?_ ?_ ?_
        rotate_left
        · intro w'; go_simp; with_reducible rfl
        rotate_left
        · simp only [Act.put, sA, sB, sC, i64_w]; rfl
        refine pu 3 (some 94) undef HT_ rfl rfl (by kernel_rfl) (fun _ _ _ h => h) (Or.inr ⟨by rfl, rfl⟩) ?_ ?_ ?_
        rotate_left
        · simp only [Act.put, sA, sB, sC, i64_w]; rfl
        refine pu 4 (some 95) undef HT_ rfl rfl (by kernel_rfl) (fun _ _ _ h => h) (Or.inr ⟨by rfl, rfl⟩) ?_ ?_ ?_
        rotate_left
        · simp only [Act.put, sA, sB, sC, i64_w]; rfl
        refine pu 5 (some 96) undef HT_ rfl rfl (by kernel_rfl) (fun _ _ _ h => h) (Or.inr ⟨by rfl, rfl⟩) ?_ ?_ ?_
        rotate_left
        · simp only [Act.put, sA, sB, sC, i64_w]; rfl
        refine pu 6 (some 97) undef HT_ rfl rfl (by kernel_rfl) (fun _ _ _ h => h) (Or.inr ⟨by rfl, rfl⟩) ?_ ?_ ?_
        rotate_left
        · simp only [Act.put, sA, sB, sC, i64_w]; rfl
        refine pu 7 (some 98) undef HT_ rfl rfl (by kernel_rfl) (fun _ _ _ h => h) (Or.inr ⟨by rfl, rfl⟩) ?_ ?_ ?_
        rotate_left
        · simp only [Act.put, sA, sB, sC, i64_w]; rfl
        refine pu 8 (some 99) undef HT_ rfl rfl (by kernel_rfl) (fun _ _ _ h => h) (Or.inr ⟨by rfl, rfl⟩) ?_ ?_ ?_
        rotate_left
        · simp only [Act.put, sA, sB, sC, i64_w]; rfl
        refine pu 9 (some 100) undef HT_ rfl rfl (by kernel_rfl) (fun _ _ _ h => h) (Or.inr ⟨by rfl, rfl⟩) ?_ ?_ ?_
        rotate_left
        · simp only [Act.put, sA, sB, sC, i64_w]; rfl
        refine pu 10 (some 101) undef HT_ rfl rfl (by kernel_rfl) (fun _ _ _ h => h) (Or.inr ⟨by rfl, rfl⟩) ?_ ?_ ?_
        rotate_left
        · simp only [Act.put, sA, sB, sC, i64_w]; rfl
        refine pu 11 (some 102) undef HT_ rfl rfl (by kernel_rfl) (fun _ _ _ h => h) (Or.inr ⟨by rfl, rfl⟩) ?_ ?_ ?_
        rotate_left
        · simp only [Act.put, sA, sB, sC, i64_w]; rfl
        refine pu 12 (some 103) undef HT_ rfl rfl (by kernel_rfl) (fun _ _ _ h => h) (Or.inr ⟨by rfl, rfl⟩) ?_ ?_ ?_
        rotate_left
        · simp only [Act.put, sA, sB, sC, i64_w]; rfl
        refine pu 13 (some 104) undef HT_ rfl rfl (by kernel_rfl) (fun _ _ _ h => h) (Or.inr ⟨by rfl, rfl⟩) ?_ ?_ ?_
        rotate_left
        · simp only [Act.put, sA, sB, sC, i64_w]; rfl
        refine pu 14 (some 105) undef HT_ rfl rfl (by kernel_rfl) (fun _ _ _ h => h) (Or.inr ⟨by rfl, rfl⟩) ?_ ?_ ?_
        rotate_left
        · simp only [Act.put, sA, sB, sC, i64_w]; rfl
        refine pu 15 (some 106) undef HT_ rfl rfl (by kernel_rfl) (fun _ _ _ h => h) (Or.inr ⟨by rfl, rfl⟩) ?_ ?_ ?_
        rotate_left
        · simp only [Act.put, sA, sB, sC, i64_w]; rfl
        refine pu 16 (some 107) undef HT_ rfl rfl (by kernel_rfl) (fun _ _ _ h => h) (Or.inr ⟨by rfl, rfl⟩) ?_ ?_ ?_
        rotate_left
        · simp only [Act.put, sA, sB, sC, i64_w]; rfl
        refine pu 17 (some 108) ?_ HT_ rfl rfl (by kernel_rfl) (fun _ _ _ h => h) (Or.inl ⟨by rfl, ?_⟩) ?_ ?_ ?_
        rotate_left
        · intro w'; go_simp; with_reducible rfl
        rotate_left
        · simp only [Act.put, sA, sB, sC, i64_w]; rfl
        refine done_ (done_of HT_.out (by kernel_rfl)) ?_
        cases ok with
        | false =>
          have hlv := HLs.out.1 rfl
          subst hlv
          go_wp2_with (go_at_call 22; refine (HLat.out _ _ (FreeIs.made HSrd.out)).mono ?_; rintro ev w23 ⟨rfl, hb23⟩; have HS23 := Aside0.mk (HSrd.out.below hb23); have nA23 := blk_below HArd.out hb23; have HA23 := Aside0.mk nA23; have gW23 : w23.cell? ⟨w.heap.size, 2, none⟩ = some (.int .i64 W) := (blk_cell nA23 2).trans rfl; have gT23 : w23.cell? ⟨w.heap.size, 3, none⟩ = some (.int .i64 ta) := (blk_cell nA23 3).trans rfl; have gU23 : w23.cell? ⟨w.heap.size, 4, none⟩ = some (.int .i64 tb) := (blk_cell nA23 4).trans rfl; have HB23 := Aside0.mk (below_step HBrd.out hb23); clear nA23 hb23)
          have HS23d := Aside0.mk (HS23.out.below (below_drew1 (Below.refl _ _)))
          have HA23d := Aside0.mk (blk_drew HA23.out)
          have HB23d := Aside0.mk (below_drew1 HB23.out)
          have gW23d : w23.drew.cell? ⟨w.heap.size, 2, none⟩ = some (.int .i64 W) := gW23
          have gT23d : w23.drew.cell? ⟨w.heap.size, 3, none⟩ = some (.int .i64 ta) := gT23
          have gU23d : w23.drew.cell? ⟨w.heap.size, 4, none⟩ = some (.int .i64 tb) := gU23
          refine start_ (n := 18) (S := fun w' => w'.cell? ⟨w.heap.size, 2, none⟩ = some (.int .i64 W) ∧ w'.cell? ⟨w.heap.size, 3, none⟩ = some (.int .i64 ta) ∧ w'.cell? ⟨w.heap.size, 4, none⟩ = some (.int .i64 tb)) (ds := []) #[false, false, false, false, false, false, false, false, false, false, false, false, false, false, false, false, false, false] (by kernel_rfl) rfl rfl ⟨gW23, gT23, gU23⟩ (fun hHeld => ?_); refine with_tabW spansRc.tab16 spansRc.bits16 (fun HT_ HW_ => ?_)
          refine pu 0 (some 119) ?_ HT_ rfl rfl (by kernel_rfl) (fun _ _ _ h => h) (Or.inl ⟨by rfl, ?_⟩) ?_ ?_ ?_
          rotate_left
          · intro w'; go_simp; with_reducible rfl
          rotate_left
          · simp only [Act.put, sA, sB, sC, i64_w]; rfl
          refine pu 1 (some 120) ?_ HT_ rfl rfl (by kernel_rfl) (fun _ _ _ h => h) (Or.inl ⟨by rfl, ?_⟩) ?_ ?_ ?_
          rotate_left
          · intro w'; go_simp; with_reducible rfl
          rotate_left
          · simp only [Act.put, sA, sB, sC, i64_w]; rfl
          refine pu 2 (some 121) undef HT_ rfl rfl (by kernel_rfl) (fun _ _ _ h => h) (Or.inr ⟨by rfl, rfl⟩) ?_ ?_ ?_
          rotate_left
          · simp only [Act.put, sA, sB, sC, i64_w]; rfl
          refine pu 3 (some 122) undef HT_ rfl rfl (by kernel_rfl) (fun _ _ _ h => h) (Or.inr ⟨by rfl, rfl⟩) ?_ ?_ ?_
          rotate_left
          · simp only [Act.put, sA, sB, sC, i64_w]; rfl
          refine pu 4 (some 123) undef HT_ rfl rfl (by kernel_rfl) (fun _ _ _ h => h) (Or.inr ⟨by rfl, rfl⟩) ?_ ?_ ?_
          rotate_left
          · simp only [Act.put, sA, sB, sC, i64_w]; rfl
          refine pu 5 (some 124) undef HT_ rfl rfl (by kernel_rfl) (fun _ _ _ h => h) (Or.inr ⟨by rfl, rfl⟩) ?_ ?_ ?_
          rotate_left
          · simp only [Act.put, sA, sB, sC, i64_w]; rfl
          refine pu 6 (some 125) undef HT_ rfl rfl (by kernel_rfl) (fun _ _ _ h => h) (Or.inr ⟨by rfl, rfl⟩) ?_ ?_ ?_
          rotate_left
          · simp only [Act.put, sA, sB, sC, i64_w]; rfl
          refine pu 7 (some 126) undef HT_ rfl rfl (by kernel_rfl) (fun _ _ _ h => h) (Or.inr ⟨by rfl, rfl⟩) ?_ ?_ ?_
          rotate_left
          · simp only [Act.put, sA, sB, sC, i64_w]; rfl
          refine pu 8 (some 127) undef HT_ rfl rfl (by kernel_rfl) (fun _ _ _ h => h) (Or.inr ⟨by rfl, rfl⟩) ?_ ?_ ?_
          rotate_left
          · simp only [Act.put, sA, sB, sC, i64_w]; rfl
          refine pu 9 (some 128) undef HT_ rfl rfl (by kernel_rfl) (fun _ _ _ h => h) (Or.inr ⟨by rfl, rfl⟩) ?_ ?_ ?_
          rotate_left
          · simp only [Act.put, sA, sB, sC, i64_w]; rfl
          refine pu 10 (some 129) undef HT_ rfl rfl (by kernel_rfl) (fun _ _ _ h => h) (Or.inr ⟨by rfl, rfl⟩) ?_ ?_ ?_
          rotate_left
          · simp only [Act.put, sA, sB, sC, i64_w]; rfl
          refine pu 11 (some 130) undef HT_ rfl rfl (by kernel_rfl) (fun _ _ _ h => h) (Or.inr ⟨by rfl, rfl⟩) ?_ ?_ ?_
          rotate_left
          · simp only [Act.put, sA, sB, sC, i64_w]; rfl
          refine pu 12 (some 131) undef HT_ rfl rfl (by kernel_rfl) (fun _ _ _ h => h) (Or.inr ⟨by rfl, rfl⟩) ?_ ?_ ?_
          rotate_left
          · simp only [Act.put, sA, sB, sC, i64_w]; rfl
          refine pu 13 (some 132) undef HT_ rfl rfl (by kernel_rfl) (fun _ _ _ h => h) (Or.inr ⟨by rfl, rfl⟩) ?_ ?_ ?_
          rotate_left
          · simp only [Act.put, sA, sB, sC, i64_w]; rfl
          refine pu 14 (some 133) undef HT_ rfl rfl (by kernel_rfl) (fun _ _ _ h => h) (Or.inr ⟨by rfl, rfl⟩) ?_ ?_ ?_
          rotate_left
          · simp only [Act.put, sA, sB, sC, i64_w]; rfl
          refine pu 15 (some 134) undef HT_ rfl rfl (by kernel_rfl) (fun _ _ _ h => h) (Or.inr ⟨by rfl, rfl⟩) ?_ ?_ ?_
          rotate_left
          · simp only [Act.put, sA, sB, sC, i64_w]; rfl
          refine pu 16 (some 135) undef HT_ rfl rfl (by kernel_rfl) (fun _ _ _ h => h) (Or.inr ⟨by rfl, rfl⟩) ?_ ?_ ?_
          rotate_left
          · simp only [Act.put, sA, sB, sC, i64_w]; rfl
          refine pu 17 (some 136) ?_ HT_ rfl rfl (by kernel_rfl) (fun _ _ _ h => h) (Or.inl ⟨by rfl, ?_⟩) ?_ ?_ ?_
          rotate_left
          · intro w'; go_simp; with_reducible rfl
          rotate_left
          · simp only [Act.put, sA, sB, sC, i64_w]; rfl
          refine done_ (done_of HT_.out (by kernel_rfl)) ?_
          go_wp2
          have HS23dd := Aside0.mk (HS23d.out.below (below_drew1 (Below.refl _ _)))
          have HA23dd := Aside0.mk (blk_drew HA23d.out)
          have HB23dd := Aside0.mk (below_drew1 HB23d.out)
          have gW23dd : w23.drew.drew.cell? ⟨w.heap.size, 2, none⟩ = some (.int .i64 W) := gW23d
          have gT23dd : w23.drew.drew.cell? ⟨w.heap.size, 3, none⟩ = some (.int .i64 ta) := gT23d
          have gU23dd : w23.drew.drew.cell? ⟨w.heap.size, 4, none⟩ = some (.int .i64 tb) := gU23d
          refine start_ (n := 23) (S := fun w' => w'.cell? ⟨w.heap.size, 2, none⟩ = some (.int .i64 W) ∧ w'.cell? ⟨w.heap.size, 3, none⟩ = some (.int .i64 ta) ∧ w'.cell? ⟨w.heap.size, 4, none⟩ = some (.int .i64 tb)) (ds := []) #[false, false, false, false, false, false, false, false, false, false, false, false, false, false, false, false, false, false, false, false, false, false, false] (by kernel_rfl) rfl rfl ⟨gW23d, gT23d, gU23d⟩ (fun hHeld => ?_); refine with_tabW spansRd.tab18 spansRd.bits18 (fun HT_ HW_ => ?_)
          refine pu 0 (some 137) ?_ HT_ rfl rfl (by kernel_rfl) (fun _ _ _ h => h) (Or.inl ⟨by rfl, ?_⟩) ?_ ?_ ?_
          rotate_left
          · intro w'; go_simp; with_reducible rfl
          rotate_left
          · simp only [Act.put, sA, sB, sC, i64_w]; rfl
          refine pu 1 (some 138) ?_ HT_ rfl rfl (by kernel_rfl) (fun _ _ _ h => h) (Or.inl ⟨by rfl, ?_⟩) ?_ ?_ ?_
          rotate_left
          · intro w'; go_simp; with_reducible rfl
          rotate_left
          · simp only [Act.put, sA, sB, sC, i64_w]; rfl
          refine pu 2 (some 139) undef HT_ rfl rfl (by kernel_rfl) (fun _ _ _ h => h) (Or.inr ⟨by rfl, rfl⟩) ?_ ?_ ?_
          rotate_left
          · simp only [Act.put, sA, sB, sC, i64_w]; rfl
          refine pu 3 (some 140) undef HT_ rfl rfl (by kernel_rfl) (fun _ _ _ h => h) (Or.inr ⟨by rfl, rfl⟩) ?_ ?_ ?_
          rotate_left
          · simp only [Act.put, sA, sB, sC, i64_w]; rfl
          refine pu 4 (some 141) undef HT_ rfl rfl (by kernel_rfl) (fun _ _ _ h => h) (Or.inr ⟨by rfl, rfl⟩) ?_ ?_ ?_
          rotate_left
          · simp only [Act.put, sA, sB, sC, i64_w]; rfl
          refine pu 5 (some 142) ?_ HT_ rfl rfl (by kernel_rfl) (fun _ _ _ h => h) (Or.inl ⟨by rfl, ?_⟩) ?_ ?_ ?_
          rotate_left
          · intro w'; go_simp; with_reducible rfl
          rotate_left
          · simp only [Act.put, sA, sB, sC, i64_w]; rfl
          refine pu 6 (some 143) ?_ HT_ rfl rfl (by kernel_rfl) (fun _ _ _ h => h) (Or.inl ⟨by rfl, ?_⟩) ?_ ?_ ?_
          rotate_left
          · intro w'; go_simp; with_reducible rfl
          rotate_left
          · simp only [Act.put, sA, sB, sC, i64_w]; rfl
          refine pu 7 (some 144) undef HT_ rfl rfl (by kernel_rfl) (fun _ _ _ h => h) (Or.inr ⟨by rfl, rfl⟩) ?_ ?_ ?_
          rotate_left
          · simp only [Act.put, sA, sB, sC, i64_w]; rfl
          refine pu 8 (some 145) undef HT_ rfl rfl (by kernel_rfl) (fun _ _ _ h => h) (Or.inr ⟨by rfl, rfl⟩) ?_ ?_ ?_
          rotate_left
          · simp only [Act.put, sA, sB, sC, i64_w]; rfl
          refine pu 9 (some 146) undef HT_ rfl rfl (by kernel_rfl) (fun _ _ _ h => h) (Or.inr ⟨by rfl, rfl⟩) ?_ ?_ ?_
          rotate_left
          · simp only [Act.put, sA, sB, sC, i64_w]; rfl
          refine pu 10 (some 147) undef HT_ rfl rfl (by kernel_rfl) (fun _ _ _ h => h) (Or.inr ⟨by rfl, rfl⟩) ?_ ?_ ?_
          rotate_left
          · simp only [Act.put, sA, sB, sC, i64_w]; rfl
          refine pu 11 (some 148) undef HT_ rfl rfl (by kernel_rfl) (fun _ _ _ h => h) (Or.inr ⟨by rfl, rfl⟩) ?_ ?_ ?_
          rotate_left
          · simp only [Act.put, sA, sB, sC, i64_w]; rfl
          refine pu 12 (some 149) ?_ HT_ rfl rfl (by kernel_rfl) (fun _ _ _ h => h) (Or.inl ⟨by rfl, ?_⟩) ?_ ?_ ?_
          rotate_left
          · intro w'; go_simp; with_reducible rfl
          rotate_left
          · simp only [Act.put, sA, sB, sC, i64_w]; rfl
          refine pu 13 (some 150) ?_ HT_ rfl rfl (by kernel_rfl) (fun _ _ _ h => h) (Or.inl ⟨by rfl, ?_⟩) ?_ ?_ ?_
          rotate_left
          · intro w'; go_simp; with_reducible rfl
          rotate_left
          · simp only [Act.put, sA, sB, sC, i64_w]; rfl
          refine pu 14 (some 151) undef HT_ rfl rfl (by kernel_rfl) (fun _ _ _ h => h) (Or.inr ⟨by rfl, rfl⟩) ?_ ?_ ?_
          rotate_left
          · simp only [Act.put, sA, sB, sC, i64_w]; rfl
          refine pu 15 (some 152) undef HT_ rfl rfl (by kernel_rfl) (fun _ _ _ h => h) (Or.inr ⟨by rfl, rfl⟩) ?_ ?_ ?_
          rotate_left
          · simp only [Act.put, sA, sB, sC, i64_w]; rfl
          refine pu 16 (some 153) undef HT_ rfl rfl (by kernel_rfl) (fun _ _ _ h => h) (Or.inr ⟨by rfl, rfl⟩) ?_ ?_ ?_
          rotate_left
          · simp only [Act.put, sA, sB, sC, i64_w]; rfl
          refine pu 17 (some 154) undef HT_ rfl rfl (by kernel_rfl) (fun _ _ _ h => h) (Or.inr ⟨by rfl, rfl⟩) ?_ ?_ ?_
          rotate_left
          · simp only [Act.put, sA, sB, sC, i64_w]; rfl
          refine pu 18 (some 155) undef HT_ rfl rfl (by kernel_rfl) (fun _ _ _ h => h) (Or.inr ⟨by rfl, rfl⟩) ?_ ?_ ?_
          rotate_left
          · simp only [Act.put, sA, sB, sC, i64_w]; rfl
          refine pu 19 (some 156) undef HT_ rfl rfl (by kernel_rfl) (fun _ _ _ h => h) (Or.inr ⟨by rfl, rfl⟩) ?_ ?_ ?_
          rotate_left
          · simp only [Act.put, sA, sB, sC, i64_w]; rfl
          refine pu 20 (some 157) undef HT_ rfl rfl (by kernel_rfl) (fun _ _ _ h => h) (Or.inr ⟨by rfl, rfl⟩) ?_ ?_ ?_
          rotate_left
          · simp only [Act.put, sA, sB, sC, i64_w]; rfl
          refine pu 21 (some 158) undef HT_ rfl rfl (by kernel_rfl) (fun _ _ _ h => h) (Or.inr ⟨by rfl, rfl⟩) ?_ ?_ ?_
          rotate_left
          · simp only [Act.put, sA, sB, sC, i64_w]; rfl
          refine pu 22 (some 159) ?_ HT_ rfl rfl (by kernel_rfl) (fun _ _ _ h => h) (Or.inl ⟨by rfl, ?_⟩) ?_ ?_ ?_
          rotate_left
          · intro w'; go_simp; with_reducible rfl
          rotate_left
          · simp only [Act.put, sA, sB, sC, i64_w]; rfl
          refine done_ (done_of HT_.out (by kernel_rfl)) ?_
          go_wp2_with (go_at_call 17; refine (one11_calls _).mono ?_; rintro ev w50 ⟨rfl, hb50⟩)
          go_ret
          exact ⟨rfl, below_step HB23dd.out hb50⟩
        | true =>
          obtain ⟨hlr, hlh, hlg, hln⟩ := HLs.out.2 rfl
          have eh1 : (decide (clT ta ≤ lv) && decide (lv < clT tb)) = true := by simp; omega
          have hh1 := holds_any ta tb lv ⟨hlr.1, by omega⟩
          rw [eh1] at hh1
          have HH1 := Aside0.mk hh1
          have ho6 := of_calls lv M
          rw [clT_id ⟨hlr.1, by omega⟩] at ho6
          have hf6 := (fits_good HL.out hlr HM.out).2 hlg
          obtain ⟨T6, hT6⟩ : ∃ T6, addT lv M = T6 := ⟨_, rfl⟩
          rw [hT6] at ho6 hf6
          have hf6c := fun w' hS => fits_calls p q cc L lv T6 W w' hS HL.out
          rw [hf6] at hf6c
          have HO6 := Aside0.mk ho6
          have HF6 := Aside0.mk hf6c
          have HLN := Aside0.mk hln
          have hwl : IntKind.i64.wrap (lv + 1) = lv + 1 := by rw [IntKind.wrap_i64]; omega
          clear hh1 ho6 hf6 hf6c hT6 hlg hln
          go_wp2_with (go_at_call 22; refine (HLat.out _ _ (FreeIs.made HSrd.out)).mono ?_; rintro ev w23 ⟨rfl, hb23⟩; have HS23 := Aside0.mk (HSrd.out.below hb23); have nA23 := blk_below HArd.out hb23; have HA23 := Aside0.mk nA23; have gW23 : w23.cell? ⟨w.heap.size, 2, none⟩ = some (.int .i64 W) := (blk_cell nA23 2).trans rfl; have gT23 : w23.cell? ⟨w.heap.size, 3, none⟩ = some (.int .i64 ta) := (blk_cell nA23 3).trans rfl; have gU23 : w23.cell? ⟨w.heap.size, 4, none⟩ = some (.int .i64 tb) := (blk_cell nA23 4).trans rfl; have HB23 := Aside0.mk (below_step HBrd.out hb23); clear nA23 hb23)
          have HS23d := Aside0.mk (HS23.out.below (below_drew1 (Below.refl _ _)))
          have HA23d := Aside0.mk (blk_drew HA23.out)
          have HB23d := Aside0.mk (below_drew1 HB23.out)
          have gW23d : w23.drew.cell? ⟨w.heap.size, 2, none⟩ = some (.int .i64 W) := gW23
          have gT23d : w23.drew.cell? ⟨w.heap.size, 3, none⟩ = some (.int .i64 ta) := gT23
          have gU23d : w23.drew.cell? ⟨w.heap.size, 4, none⟩ = some (.int .i64 tb) := gU23
          refine start_ (n := 18) (S := fun w' => w'.cell? ⟨w.heap.size, 2, none⟩ = some (.int .i64 W) ∧ w'.cell? ⟨w.heap.size, 3, none⟩ = some (.int .i64 ta) ∧ w'.cell? ⟨w.heap.size, 4, none⟩ = some (.int .i64 tb)) (ds := []) #[false, false, false, false, false, false, false, false, false, false, false, false, false, false, false, false, false, false] (by kernel_rfl) rfl rfl ⟨gW23, gT23, gU23⟩ (fun hHeld => ?_); refine with_tabW spansRc.tab16 spansRc.bits16 (fun HT_ HW_ => ?_)
          refine pu 0 (some 119) ?_ HT_ rfl rfl (by kernel_rfl) (fun _ _ _ h => h) (Or.inl ⟨by rfl, ?_⟩) ?_ ?_ ?_
          rotate_left
          · intro w'; go_simp; with_reducible rfl
          rotate_left
          · simp only [Act.put, sA, sB, sC, i64_w]; rfl
          refine pu 1 (some 120) ?_ HT_ rfl rfl (by kernel_rfl) (fun _ _ _ h => h) (Or.inl ⟨by rfl, ?_⟩) ?_ ?_ ?_
          rotate_left
          · intro w'; go_simp; with_reducible rfl
          rotate_left
          · simp only [Act.put, sA, sB, sC, i64_w]; rfl
          refine pu 2 (some 121) ?_ HT_ rfl rfl (by kernel_rfl) (fun _ _ _ h => h) (Or.inl ⟨by rfl, ?_⟩) ?_ ?_ ?_
          rotate_left
          · intro w'; go_simp; with_reducible rfl
          rotate_left
          · simp only [Act.put, sA, sB, sC, i64_w]; rfl
          refine pu 4 (some 123) ?_ HT_ rfl rfl (by kernel_rfl) (fun _ _ _ h => h) (Or.inl ⟨by rfl, ?_⟩) ?_ ?_ ?_
          rotate_left
          · intro w'; go_simp; with_reducible rfl
          rotate_left
          · simp only [Act.put, sA, sB, sC, i64_w]; rfl
          refine tk 3 (some 122) ?_ HT_ HW_ rfl rfl (by kernel_rfl) (fun _ _ _ h => h) (Or.inl ⟨by rfl, ?_⟩) hHeld ?_ ?_ ?_
          rotate_left
          · rintro w' ⟨s0, s1, s2⟩; go_simp; with_reducible rfl
          rotate_left
          · simp only [Act.put, sA, sB, sC, i64_w]; rfl
          refine on 5 (some 124) HT_ rfl rfl (by kernel_rfl) (by decide) (fun K hK => ?_)
          refine goes_ Try.func26 (by kernel_rfl) rfl #[.agg #[.int .i64 ta, .int .i64 tb], .int .i64 lv] (by rfl) rfl rfl (by (try simp only [List.map_toArray, List.map_cons, List.map_nil]); first | done | rfl | (simp only [List.length_drop, List.length_take]; rfl)) ?_
          with_reducible refine (HH1.out _).mono ?_
          rintro ev w31 ⟨rfl, hb31⟩
          have HS31 := Aside0.mk (HS23d.out.below hb31)
          have nA31 := blk_below HA23d.out hb31
          have HA31 := Aside0.mk nA31
          have gW31 : w31.cell? ⟨w.heap.size, 2, none⟩ = some (.int .i64 W) := (blk_cell nA31 2).trans rfl
          have gT31 : w31.cell? ⟨w.heap.size, 3, none⟩ = some (.int .i64 ta) := (blk_cell nA31 3).trans rfl
          have gU31 : w31.cell? ⟨w.heap.size, 4, none⟩ = some (.int .i64 tb) := (blk_cell nA31 4).trans rfl
          have HB31 := Aside0.mk (below_step HB23d.out hb31)
          clear nA31 hb31
          refine ⟨_, rfl, ?_⟩
          refine hK.out _ _ ⟨gW31, gT31, gU31⟩ (fun hHeld => ?_)
          clear hK K
          refine norm_ (a' := ?_) ?_ ?_
          rotate_left
          · show Act.put _ (some 124) _ = _; simp only [Act.put, sA, sB, sC, i64_w]; rfl
          refine pu 6 (some 125) ?_ HT_ rfl rfl (by kernel_rfl) (fun _ _ _ h => h) (Or.inl ⟨by rfl, ?_⟩) ?_ ?_ ?_
          rotate_left
          · intro w'; go_simp; with_reducible rfl
          rotate_left
          · simp only [Act.put, sA, sB, sC, i64_w]; rfl
          refine pu 7 (some 126) ?_ HT_ rfl rfl (by kernel_rfl) (fun _ _ _ h => h) (Or.inl ⟨by rfl, ?_⟩) ?_ ?_ ?_
          rotate_left
          · intro w'; go_simp; with_reducible rfl
          rotate_left
          · simp only [Act.put, sA, sB, sC, i64_w]; rfl
          refine pu 8 (some 127) ?_ HT_ rfl rfl (by kernel_rfl) (fun _ _ _ h => h) (Or.inl ⟨by rfl, ?_⟩) ?_ ?_ ?_
          rotate_left
          · intro w'; go_simp; with_reducible rfl
          rotate_left
          · simp only [Act.put, sA, sB, sC, i64_w]; rfl
          refine pu 9 (some 128) ?_ HT_ rfl rfl (by kernel_rfl) (fun _ _ _ h => h) (Or.inl ⟨by rfl, ?_⟩) ?_ ?_ ?_
          rotate_left
          · intro w'; go_simp; with_reducible rfl
          rotate_left
          · simp only [Act.put, sA, sB, sC, i64_w]; rfl
          refine pu 10 (some 129) ?_ HT_ rfl rfl (by kernel_rfl) (fun _ _ _ h => h) (Or.inl ⟨by rfl, ?_⟩) ?_ ?_ ?_
          rotate_left
          · intro w'; go_simp; with_reducible rfl
          rotate_left
          · simp only [Act.put, sA, sB, sC, i64_w]; rfl
          refine pu 12 (some 131) ?_ HT_ rfl rfl (by kernel_rfl) (fun _ _ _ h => h) (Or.inl ⟨by rfl, ?_⟩) ?_ ?_ ?_
          rotate_left
          · intro w'; go_simp; with_reducible rfl
          rotate_left
          · simp only [Act.put, sA, sB, sC, i64_w]; rfl
          refine tk 13 (some 132) ?_ HT_ HW_ rfl rfl (by kernel_rfl) (fun _ _ _ h => h) (Or.inl ⟨by rfl, ?_⟩) hHeld ?_ ?_ ?_
          rotate_left
          · rintro w' ⟨s0, s1, s2⟩; go_simp; with_reducible rfl
          rotate_left
          · simp only [Act.put, sA, sB, sC, i64_w]; rfl
          refine on 11 (some 130) HT_ rfl rfl (by kernel_rfl) (by decide) (fun K hK => ?_)
          refine goes_ Try.func11 (by kernel_rfl) rfl #[.int .i64 lv, .int .i64 M] (by rfl) rfl rfl (by (try simp only [List.map_toArray, List.map_cons, List.map_nil]); first | done | rfl | (simp only [List.length_drop, List.length_take]; rfl)) ?_
          with_reducible refine (HO6.out _).mono ?_
          rintro ev w32 ⟨rfl, hb32⟩
          have HS32 := Aside0.mk (HS31.out.below hb32)
          have nA32 := blk_below HA31.out hb32
          have HA32 := Aside0.mk nA32
          have gW32 : w32.cell? ⟨w.heap.size, 2, none⟩ = some (.int .i64 W) := (blk_cell nA32 2).trans rfl
          have gT32 : w32.cell? ⟨w.heap.size, 3, none⟩ = some (.int .i64 ta) := (blk_cell nA32 3).trans rfl
          have gU32 : w32.cell? ⟨w.heap.size, 4, none⟩ = some (.int .i64 tb) := (blk_cell nA32 4).trans rfl
          have HB32 := Aside0.mk (below_step HB31.out hb32)
          clear nA32 hb32
          refine ⟨_, rfl, ?_⟩
          refine hK.out _ _ ⟨gW32, gT32, gU32⟩ (fun hHeld => ?_)
          clear hK K
          refine norm_ (a' := ?_) ?_ ?_
          rotate_left
          · show Act.put _ (some 130) _ = _; simp only [Act.put, sA, sB, sC, i64_w]; rfl
          refine on 14 (some 133) HT_ rfl rfl (by kernel_rfl) (by decide) (fun K hK => ?_)
          refine goes_ Try.func10 (by kernel_rfl) rfl #[.pointer (some ⟨p, 0, none⟩), .agg #[.int .i64 lv, .int .i64 T6], .int .i64 W] (by rfl) rfl rfl (by (try simp only [List.map_toArray, List.map_cons, List.map_nil]); first | done | rfl | (simp only [List.length_drop, List.length_take]; rfl)) ?_
          with_reducible refine (HF6.out _ HS32.out).mono ?_
          rintro ev w33 ⟨rfl, hb33⟩
          have HS33 := Aside0.mk (HS32.out.below hb33)
          have nA33 := blk_below HA32.out hb33
          have HA33 := Aside0.mk nA33
          have gW33 : w33.cell? ⟨w.heap.size, 2, none⟩ = some (.int .i64 W) := (blk_cell nA33 2).trans rfl
          have gT33 : w33.cell? ⟨w.heap.size, 3, none⟩ = some (.int .i64 ta) := (blk_cell nA33 3).trans rfl
          have gU33 : w33.cell? ⟨w.heap.size, 4, none⟩ = some (.int .i64 tb) := (blk_cell nA33 4).trans rfl
          have HB33 := Aside0.mk (below_step HB32.out hb33)
          clear nA33 hb33
          refine ⟨_, rfl, ?_⟩
          refine hK.out _ _ ⟨gW33, gT33, gU33⟩ (fun hHeld => ?_)
          clear hK K
          refine norm_ (a' := ?_) ?_ ?_
          rotate_left
          · show Act.put _ (some 133) _ = _; simp only [Act.put, sA, sB, sC, i64_w]; rfl
          refine pu 15 (some 134) ?_ HT_ rfl rfl (by kernel_rfl) (fun _ _ _ h => h) (Or.inl ⟨by rfl, ?_⟩) ?_ ?_ ?_
          rotate_left
          · intro w'; go_simp; with_reducible rfl
          rotate_left
          · simp only [Act.put, sA, sB, sC, i64_w]; rfl
          refine pu 16 (some 135) ?_ HT_ rfl rfl (by kernel_rfl) (fun _ _ _ h => h) (Or.inl ⟨by rfl, ?_⟩) ?_ ?_ ?_
          rotate_left
          · intro w'; go_simp; with_reducible rfl
          rotate_left
          · simp only [Act.put, sA, sB, sC, i64_w]; rfl
          refine pu 17 (some 136) ?_ HT_ rfl rfl (by kernel_rfl) (fun _ _ _ h => h) (Or.inl ⟨by rfl, ?_⟩) ?_ ?_ ?_
          rotate_left
          · intro w'; go_simp; with_reducible rfl
          rotate_left
          · simp only [Act.put, sA, sB, sC, i64_w]; rfl
          refine done_ (done_of HT_.out (by kernel_rfl)) ?_
          go_wp2
          by_cases hn1 : lv + 1 < 1099511627776
          · have en1 : decide (lv + 1 < 1099511627776) = true := by simp; omega
            by_cases hn2 : lv + 1 < clT tb
            · have eh2 : (decide (clT ta ≤ lv + 1) && decide (lv + 1 < clT tb)) = true := by simp; omega
              have hh2 := holds_any ta tb (lv + 1) ⟨by omega, by omega⟩
              rw [eh2] at hh2
              have HH2 := Aside0.mk hh2
              have ho7 := of_calls (lv + 1) M
              rw [clT_id ⟨by omega, by omega⟩] at ho7
              have hf7 : fitsL L (lv + 1) (addT (lv + 1) M) W = false := Bool.eq_false_iff.2 (fun hh => HLN.out hn1 hn2 ((fits_good HL.out ⟨by omega, hn1⟩ HM.out).1 hh))
              obtain ⟨T7, hT7⟩ : ∃ T7, addT (lv + 1) M = T7 := ⟨_, rfl⟩
              rw [hT7] at ho7 hf7
              have hf7c := fun w' hS => fits_calls p q cc L (lv + 1) T7 W w' hS HL.out
              rw [hf7] at hf7c
              have HO7 := Aside0.mk ho7
              have HF7 := Aside0.mk hf7c
              clear hh2 ho7 hf7 hf7c hT7 eh2 hn1 hn2
              have HS33d := Aside0.mk (HS33.out.below (below_drew1 (Below.refl _ _)))
              have HA33d := Aside0.mk (blk_drew HA33.out)
              have HB33d := Aside0.mk (below_drew1 HB33.out)
              have gW33d : w33.drew.cell? ⟨w.heap.size, 2, none⟩ = some (.int .i64 W) := gW33
              have gT33d : w33.drew.cell? ⟨w.heap.size, 3, none⟩ = some (.int .i64 ta) := gT33
              have gU33d : w33.drew.cell? ⟨w.heap.size, 4, none⟩ = some (.int .i64 tb) := gU33
              refine start_ (n := 23) (S := fun w' => w'.cell? ⟨w.heap.size, 2, none⟩ = some (.int .i64 W) ∧ w'.cell? ⟨w.heap.size, 3, none⟩ = some (.int .i64 ta) ∧ w'.cell? ⟨w.heap.size, 4, none⟩ = some (.int .i64 tb)) (ds := []) #[false, false, false, false, false, false, false, false, false, false, false, false, false, false, false, false, false, false, false, false, false, false, false] (by kernel_rfl) rfl rfl ⟨gW33, gT33, gU33⟩ (fun hHeld => ?_); refine with_tabW spansRd.tab18 spansRd.bits18 (fun HT_ HW_ => ?_)
              refine pu 0 (some 137) ?_ HT_ rfl rfl (by kernel_rfl) (fun _ _ _ h => h) (Or.inl ⟨by rfl, ?_⟩) ?_ ?_ ?_
              rotate_left
              · intro w'; go_simp; with_reducible rfl
              rotate_left
              · simp only [Act.put, sA, sB, sC, i64_w]; rfl
              refine pu 1 (some 138) ?_ HT_ rfl rfl (by kernel_rfl) (fun _ _ _ h => h) (Or.inl ⟨by rfl, ?_⟩) ?_ ?_ ?_
              rotate_left
              · intro w'; go_simp; with_reducible rfl
              rotate_left
              · simp only [Act.put, sA, sB, sC, i64_w]; rfl
              refine pu 2 (some 139) ?_ HT_ rfl rfl (by kernel_rfl) (fun _ _ _ h => h) (Or.inl ⟨by rfl, ?_⟩) ?_ ?_ ?_
              rotate_left
              · intro w'; go_simp; with_reducible rfl
              rotate_left
              · simp only [Act.put, sA, sB, sC, i64_w]; rfl
              refine pu 3 (some 140) ?_ HT_ rfl rfl (by kernel_rfl) (fun _ _ _ h => h) (Or.inl ⟨by rfl, ?_⟩) ?_ ?_ ?_
              rotate_left
              · intro w'; go_simp; with_reducible rfl
              rotate_left
              · simp only [Act.put, sA, sB, sC, i64_w]; rfl
              refine pu 4 (some 141) ?_ HT_ rfl rfl (by kernel_rfl) (fun _ _ _ h => h) (Or.inl ⟨by rfl, ?_⟩) ?_ ?_ ?_
              rotate_left
              · intro w'; go_simp; with_reducible rfl
              rotate_left
              · simp only [Act.put, sA, sB, sC, i64_w]; rfl
              refine pu 5 (some 142) ?_ HT_ rfl rfl (by kernel_rfl) (fun _ _ _ h => h) (Or.inl ⟨by rfl, ?_⟩) ?_ ?_ ?_
              rotate_left
              · intro w'; go_simp; with_reducible rfl
              rotate_left
              · simp only [Act.put, sA, sB, sC, i64_w]; rfl
              refine pu 6 (some 143) ?_ HT_ rfl rfl (by kernel_rfl) (fun _ _ _ h => h) (Or.inl ⟨by rfl, ?_⟩) ?_ ?_ ?_
              rotate_left
              · intro w'; go_simp; with_reducible rfl
              rotate_left
              · simp only [Act.put, sA, sB, sC, i64_w]; rfl
              refine pu 7 (some 144) ?_ HT_ rfl rfl (by kernel_rfl) (fun _ _ _ h => h) (Or.inl ⟨by rfl, ?_⟩) ?_ ?_ ?_
              rotate_left
              · intro w'; go_simp; with_reducible rfl
              rotate_left
              · simp only [Act.put, sA, sB, sC, i64_w]; rfl
              refine pu 9 (some 146) ?_ HT_ rfl rfl (by kernel_rfl) (fun _ _ _ h => h) (Or.inl ⟨by rfl, ?_⟩) ?_ ?_ ?_
              rotate_left
              · intro w'; go_simp; with_reducible rfl
              rotate_left
              · simp only [Act.put, sA, sB, sC, i64_w]; rfl
              refine pu 10 (some 147) ?_ HT_ rfl rfl (by kernel_rfl) (fun _ _ _ h => h) (Or.inl ⟨by rfl, ?_⟩) ?_ ?_ ?_
              rotate_left
              · intro w'; go_simp; with_reducible rfl
              rotate_left
              · simp only [Act.put, sA, sB, sC, i64_w]; rfl
              refine tk 8 (some 145) ?_ HT_ HW_ rfl rfl (by kernel_rfl) (fun _ _ _ h => h) (Or.inl ⟨by rfl, ?_⟩) hHeld ?_ ?_ ?_
              rotate_left
              · rintro w' ⟨s0, s1, s2⟩; go_simp; with_reducible rfl
              rotate_left
              · simp only [Act.put, sA, sB, sC, i64_w]; rfl
              refine on 11 (some 148) HT_ rfl rfl (by kernel_rfl) (by decide) (fun K hK => ?_)
              refine goes_ Try.func26 (by kernel_rfl) rfl #[.agg #[.int .i64 ta, .int .i64 tb], .int .i64 (lv + 1)] (by rfl) rfl rfl (by (try simp only [List.map_toArray, List.map_cons, List.map_nil]); first | done | rfl | (simp only [List.length_drop, List.length_take]; rfl)) ?_
              with_reducible refine (HH2.out _).mono ?_
              rintro ev w41 ⟨rfl, hb41⟩
              have HS41 := Aside0.mk (HS33d.out.below hb41)
              have nA41 := blk_below HA33d.out hb41
              have HA41 := Aside0.mk nA41
              have gW41 : w41.cell? ⟨w.heap.size, 2, none⟩ = some (.int .i64 W) := (blk_cell nA41 2).trans rfl
              have gT41 : w41.cell? ⟨w.heap.size, 3, none⟩ = some (.int .i64 ta) := (blk_cell nA41 3).trans rfl
              have gU41 : w41.cell? ⟨w.heap.size, 4, none⟩ = some (.int .i64 tb) := (blk_cell nA41 4).trans rfl
              have HB41 := Aside0.mk (below_step HB33d.out hb41)
              clear nA41 hb41
              refine ⟨_, rfl, ?_⟩
              refine hK.out _ _ ⟨gW41, gT41, gU41⟩ (fun hHeld => ?_)
              clear hK K
              refine norm_ (a' := ?_) ?_ ?_
              rotate_left
              · show Act.put _ (some 148) _ = _; simp only [Act.put, sA, sB, sC, i64_w]; rfl
              refine pu 12 (some 149) ?_ HT_ rfl rfl (by kernel_rfl) (fun _ _ _ h => h) (Or.inl ⟨by rfl, ?_⟩) ?_ ?_ ?_
              rotate_left
              · intro w'; go_simp; with_reducible rfl
              rotate_left
              · simp only [Act.put, sA, sB, sC, i64_w]; rfl
              refine pu 13 (some 150) ?_ HT_ rfl rfl (by kernel_rfl) (fun _ _ _ h => h) (Or.inl ⟨by rfl, ?_⟩) ?_ ?_ ?_
              rotate_left
              · intro w'; go_simp; with_reducible rfl
              rotate_left
              · simp only [Act.put, sA, sB, sC, i64_w]; rfl
              refine pu 14 (some 151) ?_ HT_ rfl rfl (by kernel_rfl) (fun _ _ _ h => h) (Or.inl ⟨by rfl, ?_⟩) ?_ ?_ ?_
              rotate_left
              · intro w'; go_simp; with_reducible rfl
              rotate_left
              · simp only [Act.put, sA, sB, sC, i64_w]; rfl
              refine pu 15 (some 152) ?_ HT_ rfl rfl (by kernel_rfl) (fun _ _ _ h => h) (Or.inl ⟨by rfl, ?_⟩) ?_ ?_ ?_
              rotate_left
              · intro w'; go_simp; with_reducible rfl
              rotate_left
              · simp only [Act.put, sA, sB, sC, i64_w]; rfl
              refine pu 16 (some 153) ?_ HT_ rfl rfl (by kernel_rfl) (fun _ _ _ h => h) (Or.inl ⟨by rfl, ?_⟩) ?_ ?_ ?_
              rotate_left
              · intro w'; go_simp; with_reducible rfl
              rotate_left
              · simp only [Act.put, sA, sB, sC, i64_w]; rfl
              refine pu 17 (some 154) ?_ HT_ rfl rfl (by kernel_rfl) (fun _ _ _ h => h) (Or.inl ⟨by rfl, ?_⟩) ?_ ?_ ?_
              rotate_left
              · intro w'; go_simp; with_reducible rfl
              rotate_left
              · simp only [Act.put, sA, sB, sC, i64_w]; rfl
              refine pu 19 (some 156) ?_ HT_ rfl rfl (by kernel_rfl) (fun _ _ _ h => h) (Or.inl ⟨by rfl, ?_⟩) ?_ ?_ ?_
              rotate_left
              · intro w'; go_simp; with_reducible rfl
              rotate_left
              · simp only [Act.put, sA, sB, sC, i64_w]; rfl
              refine tk 20 (some 157) ?_ HT_ HW_ rfl rfl (by kernel_rfl) (fun _ _ _ h => h) (Or.inl ⟨by rfl, ?_⟩) hHeld ?_ ?_ ?_
              rotate_left
              · rintro w' ⟨s0, s1, s2⟩; go_simp; with_reducible rfl
              rotate_left
              · simp only [Act.put, sA, sB, sC, i64_w]; rfl
              refine on 18 (some 155) HT_ rfl rfl (by kernel_rfl) (by decide) (fun K hK => ?_)
              refine goes_ Try.func11 (by kernel_rfl) rfl #[.int .i64 (lv + 1), .int .i64 M] (by rfl) rfl rfl (by (try simp only [List.map_toArray, List.map_cons, List.map_nil]); first | done | rfl | (simp only [List.length_drop, List.length_take]; rfl)) ?_
              with_reducible refine (HO7.out _).mono ?_
              rintro ev w42 ⟨rfl, hb42⟩
              have HS42 := Aside0.mk (HS41.out.below hb42)
              have nA42 := blk_below HA41.out hb42
              have HA42 := Aside0.mk nA42
              have gW42 : w42.cell? ⟨w.heap.size, 2, none⟩ = some (.int .i64 W) := (blk_cell nA42 2).trans rfl
              have gT42 : w42.cell? ⟨w.heap.size, 3, none⟩ = some (.int .i64 ta) := (blk_cell nA42 3).trans rfl
              have gU42 : w42.cell? ⟨w.heap.size, 4, none⟩ = some (.int .i64 tb) := (blk_cell nA42 4).trans rfl
              have HB42 := Aside0.mk (below_step HB41.out hb42)
              clear nA42 hb42
              refine ⟨_, rfl, ?_⟩
              refine hK.out _ _ ⟨gW42, gT42, gU42⟩ (fun hHeld => ?_)
              clear hK K
              refine norm_ (a' := ?_) ?_ ?_
              rotate_left
              · show Act.put _ (some 155) _ = _; simp only [Act.put, sA, sB, sC, i64_w]; rfl
              refine on 21 (some 158) HT_ rfl rfl (by kernel_rfl) (by decide) (fun K hK => ?_)
              refine goes_ Try.func10 (by kernel_rfl) rfl #[.pointer (some ⟨p, 0, none⟩), .agg #[.int .i64 (lv + 1), .int .i64 T7], .int .i64 W] (by rfl) rfl rfl (by (try simp only [List.map_toArray, List.map_cons, List.map_nil]); first | done | rfl | (simp only [List.length_drop, List.length_take]; rfl)) ?_
              with_reducible refine (HF7.out _ HS42.out).mono ?_
              rintro ev w43 ⟨rfl, hb43⟩
              have HS43 := Aside0.mk (HS42.out.below hb43)
              have nA43 := blk_below HA42.out hb43
              have HA43 := Aside0.mk nA43
              have gW43 : w43.cell? ⟨w.heap.size, 2, none⟩ = some (.int .i64 W) := (blk_cell nA43 2).trans rfl
              have gT43 : w43.cell? ⟨w.heap.size, 3, none⟩ = some (.int .i64 ta) := (blk_cell nA43 3).trans rfl
              have gU43 : w43.cell? ⟨w.heap.size, 4, none⟩ = some (.int .i64 tb) := (blk_cell nA43 4).trans rfl
              have HB43 := Aside0.mk (below_step HB42.out hb43)
              clear nA43 hb43
              refine ⟨_, rfl, ?_⟩
              refine hK.out _ _ ⟨gW43, gT43, gU43⟩ (fun hHeld => ?_)
              clear hK K
              refine norm_ (a' := ?_) ?_ ?_
              rotate_left
              · show Act.put _ (some 158) _ = _; simp only [Act.put, sA, sB, sC, i64_w]; rfl
              refine pu 22 (some 159) ?_ HT_ rfl rfl (by kernel_rfl) (fun _ _ _ h => h) (Or.inl ⟨by rfl, ?_⟩) ?_ ?_ ?_
              rotate_left
              · intro w'; go_simp; with_reducible rfl
              rotate_left
              · simp only [Act.put, sA, sB, sC, i64_w]; rfl
              refine done_ (done_of HT_.out (by kernel_rfl)) ?_
              go_wp2_with (go_at_call 17; refine (one11_calls _).mono ?_; rintro ev w50 ⟨rfl, hb50⟩)
              go_ret
              exact ⟨rfl, below_step HB43.out hb50⟩
            · have eh2 : (decide (clT ta ≤ lv + 1) && decide (lv + 1 < clT tb)) = false := by simp; omega
              have hh2 := holds_any ta tb (lv + 1) ⟨by omega, by omega⟩
              rw [eh2] at hh2
              have HH2 := Aside0.mk hh2
              clear hh2 eh2 hn1 hn2
              have HS33d := Aside0.mk (HS33.out.below (below_drew1 (Below.refl _ _)))
              have HA33d := Aside0.mk (blk_drew HA33.out)
              have HB33d := Aside0.mk (below_drew1 HB33.out)
              have gW33d : w33.drew.cell? ⟨w.heap.size, 2, none⟩ = some (.int .i64 W) := gW33
              have gT33d : w33.drew.cell? ⟨w.heap.size, 3, none⟩ = some (.int .i64 ta) := gT33
              have gU33d : w33.drew.cell? ⟨w.heap.size, 4, none⟩ = some (.int .i64 tb) := gU33
              refine start_ (n := 23) (S := fun w' => w'.cell? ⟨w.heap.size, 2, none⟩ = some (.int .i64 W) ∧ w'.cell? ⟨w.heap.size, 3, none⟩ = some (.int .i64 ta) ∧ w'.cell? ⟨w.heap.size, 4, none⟩ = some (.int .i64 tb)) (ds := []) #[false, false, false, false, false, false, false, false, false, false, false, false, false, false, false, false, false, false, false, false, false, false, false] (by kernel_rfl) rfl rfl ⟨gW33, gT33, gU33⟩ (fun hHeld => ?_); refine with_tabW spansRd.tab18 spansRd.bits18 (fun HT_ HW_ => ?_)
              refine pu 0 (some 137) ?_ HT_ rfl rfl (by kernel_rfl) (fun _ _ _ h => h) (Or.inl ⟨by rfl, ?_⟩) ?_ ?_ ?_
              rotate_left
              · intro w'; go_simp; with_reducible rfl
              rotate_left
              · simp only [Act.put, sA, sB, sC, i64_w]; rfl
              refine pu 1 (some 138) ?_ HT_ rfl rfl (by kernel_rfl) (fun _ _ _ h => h) (Or.inl ⟨by rfl, ?_⟩) ?_ ?_ ?_
              rotate_left
              · intro w'; go_simp; with_reducible rfl
              rotate_left
              · simp only [Act.put, sA, sB, sC, i64_w]; rfl
              refine pu 2 (some 139) ?_ HT_ rfl rfl (by kernel_rfl) (fun _ _ _ h => h) (Or.inl ⟨by rfl, ?_⟩) ?_ ?_ ?_
              rotate_left
              · intro w'; go_simp; with_reducible rfl
              rotate_left
              · simp only [Act.put, sA, sB, sC, i64_w]; rfl
              refine pu 3 (some 140) ?_ HT_ rfl rfl (by kernel_rfl) (fun _ _ _ h => h) (Or.inl ⟨by rfl, ?_⟩) ?_ ?_ ?_
              rotate_left
              · intro w'; go_simp; with_reducible rfl
              rotate_left
              · simp only [Act.put, sA, sB, sC, i64_w]; rfl
              refine pu 4 (some 141) ?_ HT_ rfl rfl (by kernel_rfl) (fun _ _ _ h => h) (Or.inl ⟨by rfl, ?_⟩) ?_ ?_ ?_
              rotate_left
              · intro w'; go_simp; with_reducible rfl
              rotate_left
              · simp only [Act.put, sA, sB, sC, i64_w]; rfl
              refine pu 5 (some 142) ?_ HT_ rfl rfl (by kernel_rfl) (fun _ _ _ h => h) (Or.inl ⟨by rfl, ?_⟩) ?_ ?_ ?_
              rotate_left
              · intro w'; go_simp; with_reducible rfl
              rotate_left
              · simp only [Act.put, sA, sB, sC, i64_w]; rfl
              refine pu 6 (some 143) ?_ HT_ rfl rfl (by kernel_rfl) (fun _ _ _ h => h) (Or.inl ⟨by rfl, ?_⟩) ?_ ?_ ?_
              rotate_left
              · intro w'; go_simp; with_reducible rfl
              rotate_left
              · simp only [Act.put, sA, sB, sC, i64_w]; rfl
              refine pu 7 (some 144) ?_ HT_ rfl rfl (by kernel_rfl) (fun _ _ _ h => h) (Or.inl ⟨by rfl, ?_⟩) ?_ ?_ ?_
              rotate_left
              · intro w'; go_simp; with_reducible rfl
              rotate_left
              · simp only [Act.put, sA, sB, sC, i64_w]; rfl
              refine pu 9 (some 146) ?_ HT_ rfl rfl (by kernel_rfl) (fun _ _ _ h => h) (Or.inl ⟨by rfl, ?_⟩) ?_ ?_ ?_
              rotate_left
              · intro w'; go_simp; with_reducible rfl
              rotate_left
              · simp only [Act.put, sA, sB, sC, i64_w]; rfl
              refine pu 10 (some 147) ?_ HT_ rfl rfl (by kernel_rfl) (fun _ _ _ h => h) (Or.inl ⟨by rfl, ?_⟩) ?_ ?_ ?_
              rotate_left
              · intro w'; go_simp; with_reducible rfl
              rotate_left
              · simp only [Act.put, sA, sB, sC, i64_w]; rfl
              refine tk 8 (some 145) ?_ HT_ HW_ rfl rfl (by kernel_rfl) (fun _ _ _ h => h) (Or.inl ⟨by rfl, ?_⟩) hHeld ?_ ?_ ?_
              rotate_left
              · rintro w' ⟨s0, s1, s2⟩; go_simp; with_reducible rfl
              rotate_left
              · simp only [Act.put, sA, sB, sC, i64_w]; rfl
              refine on 11 (some 148) HT_ rfl rfl (by kernel_rfl) (by decide) (fun K hK => ?_)
              refine goes_ Try.func26 (by kernel_rfl) rfl #[.agg #[.int .i64 ta, .int .i64 tb], .int .i64 (lv + 1)] (by rfl) rfl rfl (by (try simp only [List.map_toArray, List.map_cons, List.map_nil]); first | done | rfl | (simp only [List.length_drop, List.length_take]; rfl)) ?_
              with_reducible refine (HH2.out _).mono ?_
              rintro ev w41 ⟨rfl, hb41⟩
              have HS41 := Aside0.mk (HS33d.out.below hb41)
              have nA41 := blk_below HA33d.out hb41
              have HA41 := Aside0.mk nA41
              have gW41 : w41.cell? ⟨w.heap.size, 2, none⟩ = some (.int .i64 W) := (blk_cell nA41 2).trans rfl
              have gT41 : w41.cell? ⟨w.heap.size, 3, none⟩ = some (.int .i64 ta) := (blk_cell nA41 3).trans rfl
              have gU41 : w41.cell? ⟨w.heap.size, 4, none⟩ = some (.int .i64 tb) := (blk_cell nA41 4).trans rfl
              have HB41 := Aside0.mk (below_step HB33d.out hb41)
              clear nA41 hb41
              refine ⟨_, rfl, ?_⟩
              refine hK.out _ _ ⟨gW41, gT41, gU41⟩ (fun hHeld => ?_)
              clear hK K
              refine norm_ (a' := ?_) ?_ ?_
              rotate_left
              · show Act.put _ (some 148) _ = _; simp only [Act.put, sA, sB, sC, i64_w]; rfl
              refine pu 12 (some 149) ?_ HT_ rfl rfl (by kernel_rfl) (fun _ _ _ h => h) (Or.inl ⟨by rfl, ?_⟩) ?_ ?_ ?_
              rotate_left
              · intro w'; go_simp; with_reducible rfl
              rotate_left
              · simp only [Act.put, sA, sB, sC, i64_w]; rfl
              refine pu 13 (some 150) ?_ HT_ rfl rfl (by kernel_rfl) (fun _ _ _ h => h) (Or.inl ⟨by rfl, ?_⟩) ?_ ?_ ?_
              rotate_left
              · intro w'; go_simp; with_reducible rfl
              rotate_left
              · simp only [Act.put, sA, sB, sC, i64_w]; rfl
              refine pu 14 (some 151) undef HT_ rfl rfl (by kernel_rfl) (fun _ _ _ h => h) (Or.inr ⟨by rfl, rfl⟩) ?_ ?_ ?_
              rotate_left
              · simp only [Act.put, sA, sB, sC, i64_w]; rfl
              refine pu 15 (some 152) undef HT_ rfl rfl (by kernel_rfl) (fun _ _ _ h => h) (Or.inr ⟨by rfl, rfl⟩) ?_ ?_ ?_
              rotate_left
              · simp only [Act.put, sA, sB, sC, i64_w]; rfl
              refine pu 16 (some 153) undef HT_ rfl rfl (by kernel_rfl) (fun _ _ _ h => h) (Or.inr ⟨by rfl, rfl⟩) ?_ ?_ ?_
              rotate_left
              · simp only [Act.put, sA, sB, sC, i64_w]; rfl
              refine pu 17 (some 154) undef HT_ rfl rfl (by kernel_rfl) (fun _ _ _ h => h) (Or.inr ⟨by rfl, rfl⟩) ?_ ?_ ?_
              rotate_left
              · simp only [Act.put, sA, sB, sC, i64_w]; rfl
              refine pu 18 (some 155) undef HT_ rfl rfl (by kernel_rfl) (fun _ _ _ h => h) (Or.inr ⟨by rfl, rfl⟩) ?_ ?_ ?_
              rotate_left
              · simp only [Act.put, sA, sB, sC, i64_w]; rfl
              refine pu 19 (some 156) undef HT_ rfl rfl (by kernel_rfl) (fun _ _ _ h => h) (Or.inr ⟨by rfl, rfl⟩) ?_ ?_ ?_
              rotate_left
              · simp only [Act.put, sA, sB, sC, i64_w]; rfl
              refine pu 20 (some 157) undef HT_ rfl rfl (by kernel_rfl) (fun _ _ _ h => h) (Or.inr ⟨by rfl, rfl⟩) ?_ ?_ ?_
              rotate_left
              · simp only [Act.put, sA, sB, sC, i64_w]; rfl
              refine pu 21 (some 158) undef HT_ rfl rfl (by kernel_rfl) (fun _ _ _ h => h) (Or.inr ⟨by rfl, rfl⟩) ?_ ?_ ?_
              rotate_left
              · simp only [Act.put, sA, sB, sC, i64_w]; rfl
              refine pu 22 (some 159) ?_ HT_ rfl rfl (by kernel_rfl) (fun _ _ _ h => h) (Or.inl ⟨by rfl, ?_⟩) ?_ ?_ ?_
              rotate_left
              · intro w'; go_simp; with_reducible rfl
              rotate_left
              · simp only [Act.put, sA, sB, sC, i64_w]; rfl
              refine done_ (done_of HT_.out (by kernel_rfl)) ?_
              go_wp2_with (go_at_call 17; refine (one11_calls _).mono ?_; rintro ev w50 ⟨rfl, hb50⟩)
              go_ret
              exact ⟨rfl, below_step HB41.out hb50⟩
          · have en1 : decide (lv + 1 < 1099511627776) = false := by simp; omega
            clear hn1
            have HS33d := Aside0.mk (HS33.out.below (below_drew1 (Below.refl _ _)))
            have HA33d := Aside0.mk (blk_drew HA33.out)
            have HB33d := Aside0.mk (below_drew1 HB33.out)
            have gW33d : w33.drew.cell? ⟨w.heap.size, 2, none⟩ = some (.int .i64 W) := gW33
            have gT33d : w33.drew.cell? ⟨w.heap.size, 3, none⟩ = some (.int .i64 ta) := gT33
            have gU33d : w33.drew.cell? ⟨w.heap.size, 4, none⟩ = some (.int .i64 tb) := gU33
            refine start_ (n := 23) (S := fun w' => w'.cell? ⟨w.heap.size, 2, none⟩ = some (.int .i64 W) ∧ w'.cell? ⟨w.heap.size, 3, none⟩ = some (.int .i64 ta) ∧ w'.cell? ⟨w.heap.size, 4, none⟩ = some (.int .i64 tb)) (ds := []) #[false, false, false, false, false, false, false, false, false, false, false, false, false, false, false, false, false, false, false, false, false, false, false] (by kernel_rfl) rfl rfl ⟨gW33, gT33, gU33⟩ (fun hHeld => ?_); refine with_tabW spansRd.tab18 spansRd.bits18 (fun HT_ HW_ => ?_)
            refine pu 0 (some 137) ?_ HT_ rfl rfl (by kernel_rfl) (fun _ _ _ h => h) (Or.inl ⟨by rfl, ?_⟩) ?_ ?_ ?_
            rotate_left
            · intro w'; go_simp; with_reducible rfl
            rotate_left
            · simp only [Act.put, sA, sB, sC, i64_w]; rfl
            refine pu 1 (some 138) ?_ HT_ rfl rfl (by kernel_rfl) (fun _ _ _ h => h) (Or.inl ⟨by rfl, ?_⟩) ?_ ?_ ?_
            rotate_left
            · intro w'; go_simp; with_reducible rfl
            rotate_left
            · simp only [Act.put, sA, sB, sC, i64_w]; rfl
            refine pu 2 (some 139) ?_ HT_ rfl rfl (by kernel_rfl) (fun _ _ _ h => h) (Or.inl ⟨by rfl, ?_⟩) ?_ ?_ ?_
            rotate_left
            · intro w'; go_simp; with_reducible rfl
            rotate_left
            · simp only [Act.put, sA, sB, sC, i64_w]; rfl
            refine pu 3 (some 140) ?_ HT_ rfl rfl (by kernel_rfl) (fun _ _ _ h => h) (Or.inl ⟨by rfl, ?_⟩) ?_ ?_ ?_
            rotate_left
            · intro w'; go_simp; with_reducible rfl
            rotate_left
            · simp only [Act.put, sA, sB, sC, i64_w]; rfl
            refine pu 4 (some 141) ?_ HT_ rfl rfl (by kernel_rfl) (fun _ _ _ h => h) (Or.inl ⟨by rfl, ?_⟩) ?_ ?_ ?_
            rotate_left
            · intro w'; go_simp; with_reducible rfl
            rotate_left
            · simp only [Act.put, sA, sB, sC, i64_w]; rfl
            refine pu 5 (some 142) ?_ HT_ rfl rfl (by kernel_rfl) (fun _ _ _ h => h) (Or.inl ⟨by rfl, ?_⟩) ?_ ?_ ?_
            rotate_left
            · intro w'; go_simp; with_reducible rfl
            rotate_left
            · simp only [Act.put, sA, sB, sC, i64_w]; rfl
            refine pu 6 (some 143) ?_ HT_ rfl rfl (by kernel_rfl) (fun _ _ _ h => h) (Or.inl ⟨by rfl, ?_⟩) ?_ ?_ ?_
            rotate_left
            · intro w'; go_simp; with_reducible rfl
            rotate_left
            · simp only [Act.put, sA, sB, sC, i64_w]; rfl
            refine pu 7 (some 144) undef HT_ rfl rfl (by kernel_rfl) (fun _ _ _ h => h) (Or.inr ⟨by rfl, rfl⟩) ?_ ?_ ?_
            rotate_left
            · simp only [Act.put, sA, sB, sC, i64_w]; rfl
            refine pu 8 (some 145) undef HT_ rfl rfl (by kernel_rfl) (fun _ _ _ h => h) (Or.inr ⟨by rfl, rfl⟩) ?_ ?_ ?_
            rotate_left
            · simp only [Act.put, sA, sB, sC, i64_w]; rfl
            refine pu 9 (some 146) undef HT_ rfl rfl (by kernel_rfl) (fun _ _ _ h => h) (Or.inr ⟨by rfl, rfl⟩) ?_ ?_ ?_
            rotate_left
            · simp only [Act.put, sA, sB, sC, i64_w]; rfl
            refine pu 10 (some 147) undef HT_ rfl rfl (by kernel_rfl) (fun _ _ _ h => h) (Or.inr ⟨by rfl, rfl⟩) ?_ ?_ ?_
            rotate_left
            · simp only [Act.put, sA, sB, sC, i64_w]; rfl
            refine pu 11 (some 148) undef HT_ rfl rfl (by kernel_rfl) (fun _ _ _ h => h) (Or.inr ⟨by rfl, rfl⟩) ?_ ?_ ?_
            rotate_left
            · simp only [Act.put, sA, sB, sC, i64_w]; rfl
            refine pu 12 (some 149) ?_ HT_ rfl rfl (by kernel_rfl) (fun _ _ _ h => h) (Or.inl ⟨by rfl, ?_⟩) ?_ ?_ ?_
            rotate_left
            · intro w'; go_simp; with_reducible rfl
            rotate_left
            · simp only [Act.put, sA, sB, sC, i64_w]; rfl
            refine pu 13 (some 150) ?_ HT_ rfl rfl (by kernel_rfl) (fun _ _ _ h => h) (Or.inl ⟨by rfl, ?_⟩) ?_ ?_ ?_
            rotate_left
            · intro w'; go_simp; with_reducible rfl
            rotate_left
            · simp only [Act.put, sA, sB, sC, i64_w]; rfl
            refine pu 14 (some 151) undef HT_ rfl rfl (by kernel_rfl) (fun _ _ _ h => h) (Or.inr ⟨by rfl, rfl⟩) ?_ ?_ ?_
            rotate_left
            · simp only [Act.put, sA, sB, sC, i64_w]; rfl
            refine pu 15 (some 152) undef HT_ rfl rfl (by kernel_rfl) (fun _ _ _ h => h) (Or.inr ⟨by rfl, rfl⟩) ?_ ?_ ?_
            rotate_left
            · simp only [Act.put, sA, sB, sC, i64_w]; rfl
            refine pu 16 (some 153) undef HT_ rfl rfl (by kernel_rfl) (fun _ _ _ h => h) (Or.inr ⟨by rfl, rfl⟩) ?_ ?_ ?_
            rotate_left
            · simp only [Act.put, sA, sB, sC, i64_w]; rfl
            refine pu 17 (some 154) undef HT_ rfl rfl (by kernel_rfl) (fun _ _ _ h => h) (Or.inr ⟨by rfl, rfl⟩) ?_ ?_ ?_
            rotate_left
            · simp only [Act.put, sA, sB, sC, i64_w]; rfl
            refine pu 18 (some 155) undef HT_ rfl rfl (by kernel_rfl) (fun _ _ _ h => h) (Or.inr ⟨by rfl, rfl⟩) ?_ ?_ ?_
            rotate_left
            · simp only [Act.put, sA, sB, sC, i64_w]; rfl
            refine pu 19 (some 156) undef HT_ rfl rfl (by kernel_rfl) (fun _ _ _ h => h) (Or.inr ⟨by rfl, rfl⟩) ?_ ?_ ?_
            rotate_left
            · simp only [Act.put, sA, sB, sC, i64_w]; rfl
            refine pu 20 (some 157) undef HT_ rfl rfl (by kernel_rfl) (fun _ _ _ h => h) (Or.inr ⟨by rfl, rfl⟩) ?_ ?_ ?_
            rotate_left
            · simp only [Act.put, sA, sB, sC, i64_w]; rfl
            refine pu 21 (some 158) undef HT_ rfl rfl (by kernel_rfl) (fun _ _ _ h => h) (Or.inr ⟨by rfl, rfl⟩) ?_ ?_ ?_
            rotate_left
            · simp only [Act.put, sA, sB, sC, i64_w]; rfl
            refine pu 22 (some 159) ?_ HT_ rfl rfl (by kernel_rfl) (fun _ _ _ h => h) (Or.inl ⟨by rfl, ?_⟩) ?_ ?_ ?_
            rotate_left
            · intro w'; go_simp; with_reducible rfl
            rotate_left
            · simp only [Act.put, sA, sB, sC, i64_w]; rfl
            refine done_ (done_of HT_.out (by kernel_rfl)) ?_
            go_wp2_with (go_at_call 17; refine (one11_calls _).mono ?_; rintro ev w50 ⟨rfl, hb50⟩)
            go_ret
            exact ⟨rfl, below_step HB33d.out hb50⟩
theorem FitSpans_walk (A : Option Addr) (c : Nat) (xs : List ActS) (fr many W ta tb tt : Int) (w : World) (hr : Kd.C kAct w A xs.length xs) (hc : xs.length ≤ c) (_ : ∀ y ∈ xs, True) (_ : (Lit.int .i64 W).wf = true) (_ : (Lit.int .i64 tt).wf = true) :
    Calls Try.prog 6 #[.slice A xs.length c, .agg #[.int .i64 fr, .int .i64 many, .int .i64 W, .int .i64 ta, .int .i64 tb], .int .i64 tt] w fun e w' => e = .returned (.bool true) ∧ Below w.heap.size w w' :=
  fitSpans_calls A c xs fr many W ta tb tt w hr hc
end Go.Proofs.Ytlddccmgamlccaa.Us
