/-
  The plain laws of layer tick, over the printed functions: joining spans by sorting them is putting them in one by one, whatever spans; times added, taken off, multiplied and rounded up are the document's; and the statements' own tests are true. Conditions: whole numbers of 64 bits; fewer than 2^43 spans.
-/
import Derived.Test.YtgdlhfmdgibkbaaPTickx6
import Derived.Test.YtgdlhfmdgibkbaaPTickx5
import Derived.Test.YtgdlhfmdgibkbaaSpan
namespace Go.Proofs.Ytgdlhfmdgibkbaa.PTick
open Go.RowKit Go.Proofs.YtgdlhfmdgibkbaaW.PrintWords Go.Proofs.YtgdlhfmdgibkbaaW.PrintLast Go.Proofs.YtgdlhfmdgibkbaaW.PrintMore
open Go.Proofs.SpanLaw

/-- The nearest time from 0 to 2^40. -/
def cl (t : Int) : Int := if t < 0 then 0 else if t > 1099511627776 then 1099511627776 else t
theorem cl_range (t : Int) : 0 ≤ cl t ∧ cl t ≤ 1099511627776 := by unfold cl; split <;> (try split) <;> omega
theorem cl_mx (t : Int) : mx 0 (mn t 1099511627776) = cl t := by unfold cl mx mn; split <;> split <;> (try split) <;> omega
theorem tick_Clamp_tells (t : Int) : tick_Clamp.f t = some (cl t) := by unfold tick_Clamp.f; rw [cl_mx]
theorem ref_Clamp_tells (t : Int) : berthingref01_Clamp.f t = some (cl t) := by unfold berthingref01_Clamp.f cl; split <;> (try split) <;> rfl
theorem cl_cl (t : Int) : cl (cl t) = cl t := by unfold cl; (repeat' split) <;> omega
theorem clean_tells (a b : Int) : tick_Span_clean.f a b = some (cl a, cl b) := by unfold tick_Span_clean.f; rw [tick_Clamp_tells, tick_Clamp_tells]; rfl
theorem Empty_tells (a b : Int) : tick_Span_Empty.f a b = some (decide (cl b ≤ cl a)) := by unfold tick_Span_Empty.f; rw [clean_tells]; rfl
theorem refClean_tells (a b : Int) : berthingref01_Span_Clean.f a b = some (if cl a ≥ cl b then (0, 0) else (cl a, cl b)) := by
  unfold berthingref01_Span_Clean.f
  rw [ref_Clamp_tells, ref_Clamp_tells]
  simp only [Option.bind_some]
  split <;> rfl
theorem wrap_small {x : Int} (h0 : -9223372036854775808 ≤ x) (h1 : x ≤ 9223372036854775807) : wrap64 x = x := by unfold wrap64; omega

theorem Add_tells (a b : Int) : tick_Add.f a b = some (cl (cl a + cl b)) := by
  unfold tick_Add.f
  have ha := cl_range a
  have hb := cl_range b
  rw [tick_Clamp_tells, tick_Clamp_tells]
  simp only [Option.bind_some]
  rw [tick_Clamp_tells, wrap_small (by omega) (by omega)]
  rfl
theorem Sub_tells (a b : Int) : tick_Sub.f a b = some (if cl a ≤ cl b then 0 else if cl a = 1099511627776 then 1099511627776 else cl a - cl b) := by
  unfold tick_Sub.f
  have ha := cl_range a
  have hb := cl_range b
  rw [tick_Clamp_tells, tick_Clamp_tells]
  simp only [Option.bind_some]
  rw [wrap_small (by omega) (by omega)]
  split <;> (try split) <;> rfl

theorem cl_small {z : Int} (h0 : 0 ≤ z) (h1 : z ≤ 1099511627776) : cl z = z := by unfold cl; (repeat' split) <;> omega
theorem cl_min {z : Int} (h0 : 0 ≤ z) : cl z = min 1099511627776 z := by unfold cl; (repeat' split) <;> omega
theorem cl_mono {a b : Int} (h : a ≤ b) : cl a ≤ cl b := by unfold cl; (repeat' split) <;> omega
theorem Own_tells (a b : Int) : berthinglaw01_Own.f a b = some (a, b) := rfl

/-! ### tick.Join -/
def sp29 (x : S29) : Sp := (x.f0, x.f1)
def sp25 (x : S25) : Sp := (x.f0, x.f1)
def alive (x : Int × Int) : Bool := decide (cl x.1 < cl x.2)
/-- The spans that are not empty, as their times count. -/
def cleaned (l : List Sp) : List Sp := (l.filter alive).map fun x => (cl x.1, cl x.2)
theorem alive29 (x : S29) : alive (sp29 x) = decide (cl x.f0 < cl x.f1) := rfl
theorem alive25 (x : S25) : alive (sp25 x) = decide (cl x.f0 < cl x.f1) := rfl
theorem cleaned_cons (x : Sp) (l : List Sp) : cleaned (x :: l) = if alive x = true then (cl x.1, cl x.2) :: cleaned l else cleaned l := by
  unfold cleaned
  rw [List.filter_cons]
  split <;> simp
theorem cleaned_lt (l : List Sp) : ∀ a ∈ cleaned l, a.1 < a.2 := by
  intro a ha
  simp only [cleaned, List.mem_map, List.mem_filter] at ha
  obtain ⟨x, ⟨_, hx⟩, rfl⟩ := ha
  simpa [alive] using hx
theorem cleaned_length (l : List Sp) : (cleaned l).length ≤ l.length := by
  unfold cleaned
  rw [List.length_map]
  exact List.length_filter_le _ _

theorem rd29_get (l : List S29) (i : Nat) (h : i < l.length) : rd_T29 l (i : Int) = l[i] := by
  unfold rd_T29
  rw [Int.toNat_natCast, List.getD_eq_getElem?_getD, List.getElem?_eq_getElem h, Option.getD_some]
theorem rd25_get (l : List S25) (i : Nat) (h : i < l.length) : rd_T25 l (i : Int) = l[i] := by
  unfold rd_T25
  rw [Int.toNat_natCast, List.getD_eq_getElem?_getD, List.getElem?_eq_getElem h, Option.getD_some]

/-- One round of the second loop. -/
theorem join_l1 (d : Nat) : ∀ (k : Nat) (x6 x27 : List S29) (i : Nat), x27.length - i = d → i ≤ x27.length → x27.length < 4398046511104 → x6.length ≤ i → d < k →
    ∃ r, tick_Join.l1 k x6 x27 (x27.length : Int) (i : Int) = some r ∧ r.map sp29 = ((x27.drop i).map sp29).foldl joinStep (x6.map sp29) := by
  induction d with
  | zero =>
    intro k x6 x27 i hd hi hm h6 hk
    obtain ⟨k, rfl⟩ : ∃ m, k = m + 1 := ⟨k - 1, by omega⟩
    have hi' : i = x27.length := by omega
    refine ⟨x6, ?_, ?_⟩
    · simp only [tick_Join.l1]
      rw [if_neg (by omega)]
    · rw [List.drop_of_length_le (by omega)]
      rfl
  | succ d ih =>
    intro k x6 x27 i hd hi hm h6 hk
    obtain ⟨k, rfl⟩ : ∃ m, k = m + 1 := ⟨k - 1, by omega⟩
    have hlt : i < x27.length := by omega
    have hdrop : x27.drop i = x27[i] :: x27.drop (i + 1) := List.drop_eq_getElem_cons hlt
    have hw : wrap64 ((i : Int) + 1) = ((i + 1 : Nat) : Int) := by rw [wrap_small (by omega) (by omega)]; omega
    simp only [tick_Join.l1]
    rw [if_pos (by omega), if_pos (by omega), if_pos (by omega), rd29_get _ _ hlt, hw]
    rcases List.eq_nil_or_concat x6 with rfl | ⟨o, x, rfl⟩
    · rw [if_neg (by simp), if_pos (by simp)]
      obtain ⟨r, hr, hq⟩ := ih k [⟨x27[i].f0, x27[i].f1⟩] x27 (i + 1) (by omega) (by omega) hm (by simp) (by omega)
      refine ⟨r, hr, ?_⟩
      rw [hq, hdrop]
      rfl
    · rw [List.concat_eq_append] at *
      have hlen : (o ++ [x]).length = o.length + 1 := by simp
      have hl1 : wrap64 (((o ++ [x]).length : Int) - 1) = (o.length : Int) := by rw [hlen, wrap_small (by omega) (by omega)]; omega
      have hlast : rd_T29 (o ++ [x]) (o.length : Int) = x := by rw [rd29_get _ _ (by omega)]; simp
      rw [if_pos (by omega), hl1, if_pos (by omega), if_pos (by omega), hlast]
      have hg : ((o ++ [x]).map sp29).getLast? = some (sp29 x) := by simp
      by_cases c : x27[i].f0 ≤ x.f1
      · rw [if_pos c]
        have hset : (o ++ [x]).set ((o.length : Int)).toNat ⟨x.f0, mx x.f1 x27[i].f1⟩ = o ++ [⟨x.f0, mx x.f1 x27[i].f1⟩] := by
          rw [Int.toNat_natCast]
          simp
        rw [hset]
        obtain ⟨r, hr, hq⟩ := ih k (o ++ [⟨x.f0, mx x.f1 x27[i].f1⟩]) x27 (i + 1) (by omega) (by omega) hm (by simp at h6 ⊢; omega) (by omega)
        refine ⟨r, hr, ?_⟩
        rw [hq, hdrop, List.map_cons, List.foldl_cons]
        congr 1
        unfold joinStep
        rw [hg]
        simp only []
        rw [if_pos (show (sp29 x27[i]).1 ≤ (sp29 x).2 from c)]
        have hmx : mx x.f1 x27[i].f1 = max x.f1 x27[i].f1 := by unfold mx; omega
        simp [sp29, hmx]
      · rw [if_neg c, if_pos (by omega)]
        obtain ⟨r, hr, hq⟩ := ih k (o ++ [x] ++ [⟨x27[i].f0, x27[i].f1⟩]) x27 (i + 1) (by omega) (by omega) hm (by simp at h6 ⊢; omega) (by omega)
        refine ⟨r, hr, ?_⟩
        rw [hq, hdrop, List.map_cons, List.foldl_cons]
        congr 1
        unfold joinStep
        rw [hg]
        simp only []
        rw [if_neg (show ¬ (sp29 x27[i]).1 ≤ (sp29 x).2 from c)]
        simp [sp29]

/-- The first loop, and what follows. -/
theorem join_l0 (d : Nat) : ∀ (k : Nat) (x3 x10 : List S29) (i : Nat), x10.length - i = d → i ≤ x10.length → x10.length < 4398046511104 → x3.length ≤ i → d + x10.length + 1 < k →
    (∀ a ∈ x3, a.f0 < a.f1) →
    ∃ r, tick_Join.l0 k x3 x10 (x10.length : Int) (i : Int) = some r ∧ r.map sp29 = (x3.map sp29 ++ cleaned ((x10.drop i).map sp29)).foldl put [] := by
  induction d with
  | zero =>
    intro k x3 x10 i hd hi hm h3 hk hlt
    obtain ⟨k, rfl⟩ : ∃ m, k = m + 1 := ⟨k - 1, by omega⟩
    simp only [tick_Join.l0]
    rw [if_neg (by omega)]
    have hsf : ∃ s, slices_SortFunc.f x3 = some s := by unfold slices_SortFunc.f; rw [if_pos (by omega)]; exact ⟨_, rfl⟩
    obtain ⟨s, hs⟩ := hsf
    obtain ⟨hp, hso, hl⟩ := slices_SortFunc.tells hs
    rw [hs]
    simp only [Option.bind_some]
    rw [← hl]
    obtain ⟨r, hr, hq⟩ := join_l1 (s.length - 0) k [] s 0 rfl (Nat.zero_le _) (by omega) (Nat.le_refl _) (by omega)
    refine ⟨r, hr, ?_⟩
    rw [hq, List.drop_zero, List.drop_of_length_le (by omega)]
    simp only [List.map_nil, cleaned, List.filter_nil, List.append_nil]
    refine joins_same (hp.symm.map sp29) ?_ ?_
    · rw [List.pairwise_map]
      exact hso
    · intro a ha
      obtain ⟨x, hx, rfl⟩ := List.mem_map.1 ha
      exact hlt x hx
  | succ d ih =>
    intro k x3 x10 i hd hi hm h3 hk hlt
    obtain ⟨k, rfl⟩ : ∃ m, k = m + 1 := ⟨k - 1, by omega⟩
    have hli : i < x10.length := by omega
    have hdrop : x10.drop i = x10[i] :: x10.drop (i + 1) := List.drop_eq_getElem_cons hli
    have hw : wrap64 ((i : Int) + 1) = ((i + 1 : Nat) : Int) := by rw [wrap_small (by omega) (by omega)]; omega
    simp only [tick_Join.l0]
    rw [if_pos (by omega), if_pos (by omega), if_pos (by omega), rd29_get _ _ hli, hw, Empty_tells, clean_tells]
    simp only [Option.bind_some]
    rw [hdrop, List.map_cons, cleaned_cons]
    by_cases c : cl x10[i].f1 ≤ cl x10[i].f0
    · rw [if_pos (by simpa using c), if_neg (by rw [alive29]; simpa using c)]
      exact ih k x3 x10 (i + 1) (by omega) (by omega) hm (by omega) (by omega) hlt
    · rw [if_neg (by simpa using c), if_pos (by omega), if_pos (by rw [alive29]; simpa using c)]
      obtain ⟨r, hr, hq⟩ := ih k (x3 ++ [⟨cl x10[i].f0, cl x10[i].f1⟩]) x10 (i + 1) (by omega) (by omega) hm (by simp; omega) (by omega) (by
        intro a ha
        simp at ha
        rcases ha with ha | rfl
        · exact hlt a ha
        · simp only []; omega)
      refine ⟨r, hr, ?_⟩
      rw [hq]
      simp [sp29]

theorem Join_tells (l : List S29) (hm : l.length < 4398046511104) (k : Nat) (hk : 2 * l.length + 1 < k) : ∃ r, tick_Join.f k l = some r ∧ r.map sp29 = (cleaned (l.map sp29)).foldl put [] := by
  obtain ⟨r, hr, hq⟩ := join_l0 l.length k [] l 0 (by omega) (by omega) hm (Nat.le_refl _) (by omega) (by simp)
  refine ⟨r, hr, ?_⟩
  rw [hq]
  simp

/-! ### the reference's Join -/
theorem ref_l1 (d : Nat) : ∀ (k : Nat) (x0 x3 : List S25) (j : Int) (x6 : List S25) (dn : Bool) (i : Nat) (s0 s1 : Int), x3.length - i = d → i ≤ x3.length → x3.length < 4398046511104 → x6.length ≤ i + (if dn = true then 1 else 0) → d + 1 ≤ k →
    ∃ nx : List S25, nx.length ≤ x3.length + 1 ∧ nx.map sp25 = close (((x3.drop i).map sp25).foldl seek (x6.map sp25, dn, (s0, s1))) ∧
      berthingref01_Join.l1 k x0 x3 j x6 dn (i : Int) s0 s1 = berthingref01_Join.l0 (k - (d + 1)) x0 nx (wrap64 (j + 1)) := by
  induction d with
  | zero =>
    intro k x0 x3 j x6 dn i s0 s1 hd hi hm h6 hk
    obtain ⟨k, rfl⟩ : ∃ m, k = m + 1 := ⟨k - 1, by omega⟩
    have hdr : x3.drop i = [] := List.drop_of_length_le (by omega)
    simp only [berthingref01_Join.l1]
    rw [if_neg (by omega), hdr]
    cases dn with
    | true =>
      refine ⟨x6, by simp at h6; omega, by simp [close], ?_⟩
      rw [if_pos rfl]
      rfl
    | false =>
      simp at h6
      refine ⟨x6 ++ [⟨s0, s1⟩], by simp; omega, by simp [close, sp25], ?_⟩
      rw [if_neg (by simp), if_pos (by omega)]
      rfl
  | succ d ih =>
    intro k x0 x3 j x6 dn i s0 s1 hd hi hm h6 hk
    obtain ⟨k, rfl⟩ : ∃ m, k = m + 1 := ⟨k - 1, by omega⟩
    have hli : i < x3.length := by omega
    have hdrop : x3.drop i = x3[i] :: x3.drop (i + 1) := List.drop_eq_getElem_cons hli
    have hw : wrap64 ((i : Int) + 1) = ((i + 1 : Nat) : Int) := by rw [wrap_small (by omega) (by omega)]; omega
    have hk1 : k + 1 - (d + 1 + 1) = k - (d + 1) := by omega
    simp only [berthingref01_Join.l1]
    rw [if_pos (by omega), if_pos (by omega), rd25_get _ _ hli, hw, hdrop, List.map_cons, List.foldl_cons, hk1]
    by_cases c1 : x3[i].f1 < s0
    · rw [if_pos c1, if_pos (by split at h6 <;> omega)]
      obtain ⟨nx, a1, a2, a3⟩ := ih k x0 x3 j (x6 ++ [⟨x3[i].f0, x3[i].f1⟩]) dn (i + 1) s0 s1 (by omega) (by omega) hm (by simp; omega) (by omega)
      refine ⟨nx, a1, ?_, a3⟩
      rw [a2]
      congr 2
      simp [seek, sp25, c1]
    · rw [if_neg c1]
      by_cases c2 : x3[i].f0 > s1
      · rw [if_pos c2]
        cases dn with
        | true =>
          rw [if_pos rfl, if_pos (by split at h6 <;> omega)]
          obtain ⟨nx, a1, a2, a3⟩ := ih k x0 x3 j (x6 ++ [⟨x3[i].f0, x3[i].f1⟩]) true (i + 1) s0 s1 (by omega) (by omega) hm (by simp at h6 ⊢; omega) (by omega)
          refine ⟨nx, a1, ?_, a3⟩
          rw [a2]
          congr 2
          simp [seek, sp25, c1, c2]
        | false =>
          simp at h6
          rw [if_neg (by simp), if_pos (by omega)]
          simp only [Option.bind_some]
          rw [if_pos (by simp; omega)]
          obtain ⟨nx, a1, a2, a3⟩ := ih k x0 x3 j (x6 ++ [⟨s0, s1⟩] ++ [⟨x3[i].f0, x3[i].f1⟩]) true (i + 1) s0 s1 (by omega) (by omega) hm (by simp; omega) (by omega)
          refine ⟨nx, a1, ?_, a3⟩
          rw [a2]
          congr 2
          simp [seek, sp25, c1, c2]
      · rw [if_neg c2]
        obtain ⟨nx, a1, a2, a3⟩ := ih k x0 x3 j x6 dn (i + 1) (mn s0 x3[i].f0) (mx s1 x3[i].f1) (by omega) (by omega) hm (by omega) (by omega)
        refine ⟨nx, a1, ?_, a3⟩
        rw [a2]
        congr 2
        have e1 : mn s0 x3[i].f0 = min s0 x3[i].f0 := by unfold mn; omega
        have e2 : mx s1 x3[i].f1 = max s1 x3[i].f1 := by unfold mx; omega
        simp [seek, sp25, c1, c2, e1, e2]

theorem ref_l0 (d : Nat) : ∀ (k : Nat) (x0 x3 : List S25) (i : Nat), x0.length - i = d → i ≤ x0.length → x0.length < 1073741824 → x3.length ≤ i → d * (x0.length + 3) < k →
    ∃ r, berthingref01_Join.l0 k x0 x3 (i : Int) = some r ∧ r.map sp25 = (cleaned ((x0.drop i).map sp25)).foldl put (x3.map sp25) := by
  induction d with
  | zero =>
    intro k x0 x3 i hd hi hm h3 hk
    obtain ⟨k, rfl⟩ : ∃ m, k = m + 1 := ⟨k - 1, by omega⟩
    refine ⟨x3, ?_, ?_⟩
    · simp only [berthingref01_Join.l0]
      rw [if_neg (by omega)]
    · rw [List.drop_of_length_le (by omega)]
      rfl
  | succ d ih =>
    intro k x0 x3 i hd hi hm h3 hk
    obtain ⟨k, rfl⟩ : ∃ m, k = m + 1 := ⟨k - 1, by omega⟩
    rw [Nat.succ_mul] at hk
    have hli : i < x0.length := by omega
    have hdrop : x0.drop i = x0[i] :: x0.drop (i + 1) := List.drop_eq_getElem_cons hli
    have hw : wrap64 ((i : Int) + 1) = ((i + 1 : Nat) : Int) := by rw [wrap_small (by omega) (by omega)]; omega
    simp only [berthingref01_Join.l0]
    rw [if_pos (by omega), if_pos (by omega), rd25_get _ _ hli, refClean_tells]
    simp only [Option.bind_some]
    rw [hdrop, List.map_cons, cleaned_cons]
    by_cases c : cl x0[i].f0 ≥ cl x0[i].f1
    · rw [if_pos c, if_pos rfl, if_neg (by rw [alive25]; simpa using c), hw]
      exact ih k x0 x3 (i + 1) (by omega) (by omega) hm (by omega) (by omega)
    · rw [if_neg c, if_neg (by simp only []; omega), if_pos (by rw [alive25]; simpa using c)]
      obtain ⟨nx, a1, a2, a3⟩ := ref_l1 x3.length k x0 x3 (i : Int) [] false 0 (cl x0[i].f0) (cl x0[i].f1) (by omega) (by omega) (by omega) (by simp) (by omega)
      simp only [Int.natCast_zero] at a3
      rw [a3, hw]
      obtain ⟨r, hr, hq⟩ := ih (k - (x3.length + 1)) x0 nx (i + 1) (by omega) (by omega) hm (by omega) (by omega)
      refine ⟨r, hr, ?_⟩
      rw [hq, a2]
      simp [put, sp25]

theorem refJoin_tells (l : List S25) (hm : l.length < 1073741824) (k : Nat) (hk : l.length * (l.length + 3) < k) : ∃ r, berthingref01_Join.f k l = some r ∧ r.map sp25 = (cleaned (l.map sp25)).foldl put [] := by
  obtain ⟨r, hr, hq⟩ := ref_l0 l.length k l [] 0 (by omega) (by omega) hm (Nat.le_refl _) (by omega)
  exact ⟨r, hr, by rw [hq]; simp⟩

/-! ### the known times -/
theorem one_tells (k : Nat) (hk : 7 < k) : berthinglaw01_one.f k = some true := by
  unfold berthinglaw01_one.f
  obtain ⟨r, hr, hq⟩ := Join_tells [⟨5, 7⟩, ⟨1, 3⟩, ⟨3, 4⟩] (by simp) k (by simp; omega)
  rw [hr]
  simp only [Option.bind_some]
  have hj : (cleaned (([⟨5, 7⟩, ⟨1, 3⟩, ⟨3, 4⟩] : List S29).map sp29)).foldl put [] = [(1, 4), (5, 7)] := by decide
  rw [hj] at hq
  have e1 : tick_Add.f 3 4 = some 7 := by rw [Add_tells]; rfl
  have e2 : tick_Add.f 1099511627776 1 = some 1099511627776 := by rw [Add_tells]; rfl
  have e3 : tick_Sub.f 3 5 = some 0 := by rw [Sub_tells]; rfl
  rw [e1, e2, e3]
  simp only [Option.bind_some]
  match r, hq with
  | [a, b], hq =>
    simp [sp29] at hq
    obtain ⟨⟨h1, h2⟩, _⟩ := hq
    simp [rd_T29, h1, h2]
  | [], hq => simp at hq
  | [_], hq => simp at hq
  | _ :: _ :: _ :: _, hq => simp at hq

end Go.Proofs.Ytgdlhfmdgibkbaa.PTick
