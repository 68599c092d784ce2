/-
  The plain law of the statement TickHolds of layer tick: whatever spans, whatever time. Conditions: none.
-/
import Derived.Test.YtgdlhfmdgibkbaaJoined
import Derived.Test.YtgdlhfmdgibkbaaSpanTells
import Derived.Test.YtgdlhfmdgibkbaaPTickx9
import Derived.Test.YtgdlhfmdgibkbaaPTickx10
namespace Go.Proofs.Ytgdlhfmdgibkbaa.PTick
open Go.RowKit Go.Proofs.YtgdlhfmdgibkbaaW.PrintWords Go.Proofs.YtgdlhfmdgibkbaaW.PrintLast Go.Proofs.YtgdlhfmdgibkbaaW.PrintMore
open Go.Proofs.SpanLaw

/-! ### TickHolds -/
def hold (t : Int) (x : S29) : Bool := decide (cl x.f0 ≤ cl t ∧ cl t < cl x.f1)
theorem hold_cut (t a b c d : Int) : decide (cl (cut a b c d).1 ≤ cl t ∧ cl t < cl (cut a b c d).2) = (decide (cl a ≤ cl t ∧ cl t < cl b) && decide (cl c ≤ cl t ∧ cl t < cl d)) := by
  have ra := cl_range a
  have rb := cl_range b
  have rc := cl_range c
  have rd := cl_range d
  have rt := cl_range t
  rw [← Bool.decide_and, decide_eq_decide]
  unfold cut
  split
  · show cl 0 ≤ cl t ∧ cl t < cl 0 ↔ _
    rw [show cl 0 = 0 from rfl]
    omega
  · show cl (max (cl a) (cl c)) ≤ cl t ∧ cl t < cl (min (cl b) (cl d)) ↔ _
    have e1 : cl (max (cl a) (cl c)) = max (cl a) (cl c) := cl_small (by omega) (by omega)
    have e2 : cl (min (cl b) (cl d)) = min (cl b) (cl d) := cl_small (by omega) (by omega)
    rw [e1, e2]
    omega
theorem any_joined (t : Int) (l j : List S29) (hj : j.map sp29 = joined l) : j.any (hold t) = l.any (hold t) := by
  obtain ⟨_, hi⟩ := joined_fine l
  rw [Bool.eq_iff_iff, List.any_eq_true, List.any_eq_true]
  have h1 : (∃ x ∈ j, hold t x = true) ↔ In (cl t) (joined l) := by
    rw [← hj]
    unfold In
    constructor
    · rintro ⟨x, hx, hh⟩
      have hm : sp29 x ∈ joined l := by rw [← hj]; exact List.mem_map_of_mem hx
      have := joined_range l _ hm
      simp only [hold, decide_eq_true_eq] at hh
      have e1 : cl x.f0 = x.f0 := cl_small this.1 (by have := this.2; simp only [sp29] at this; omega)
      have e2 : cl x.f1 = x.f1 := cl_small (by have := this; simp only [sp29] at this; omega) this.2.2
      exact ⟨sp29 x, List.mem_map_of_mem hx, by rw [e1] at hh; exact hh.1, by rw [e2] at hh; exact hh.2⟩
    · rintro ⟨a, ha, h1, h2⟩
      obtain ⟨x, hx, rfl⟩ := List.mem_map.1 ha
      have hm : sp29 x ∈ joined l := by rw [← hj]; exact List.mem_map_of_mem hx
      have := joined_range l _ hm
      have e1 : cl x.f0 = x.f0 := cl_small this.1 (by have := this.2; simp only [sp29] at this; omega)
      have e2 : cl x.f1 = x.f1 := cl_small (by have := this; simp only [sp29] at this; omega) this.2.2
      refine ⟨x, hx, ?_⟩
      simp only [hold, decide_eq_true_eq]
      rw [e1, e2]
      exact ⟨h1, h2⟩
  have h2 : (∃ x ∈ l, hold t x = true) ↔ In (cl t) (cleaned (l.map sp29)) := by
    rw [in_cleaned]
    constructor
    · rintro ⟨x, hx, hh⟩
      simp only [hold, decide_eq_true_eq] at hh
      exact ⟨sp29 x, List.mem_map_of_mem hx, hh⟩
    · rintro ⟨a, ha, h1⟩
      obtain ⟨x, hx, rfl⟩ := List.mem_map.1 ha
      exact ⟨x, hx, by simp only [hold, decide_eq_true_eq]; exact h1⟩
  rw [h1, h2, hi]

theorem TickHolds_F_l2 (j q : List S29) (b : Bool) (h : q.map sp29 = j.map sp29) (hm : j.length < 4398046511104) (d : Nat) : ∀ (k i : Nat), q.length - i = d → i ≤ q.length → d + 9 ≤ k → berthinglaw01_TickHolds_F.l2 k j b b q (i : Int) = some true := by
  have hl : q.length = j.length := by have := congrArg List.length h; simpa using this
  induction d with
  | zero =>
    intro k i hd hi hk
    obtain ⟨k, rfl⟩ : ∃ m, k = m + 1 := ⟨k - 1, by omega⟩
    simp only [berthinglaw01_TickHolds_F.l2]
    rw [if_neg (by omega), if_pos (by simp), one_tells k (by omega)]
    rfl
  | succ d ih =>
    intro k i hd hi hk
    obtain ⟨k, rfl⟩ : ∃ m, k = m + 1 := ⟨k - 1, by omega⟩
    have hir : i < q.length := by omega
    have hge : (q.map sp29)[i]? = (j.map sp29)[i]? := by rw [h]
    rw [List.getElem?_map, List.getElem?_map, List.getElem?_eq_getElem hir, List.getElem?_eq_getElem (by omega)] at hge
    simp only [Option.map_some, Option.some.injEq, sp29, Prod.mk.injEq] at hge
    simp only [berthinglaw01_TickHolds_F.l2]
    rw [if_pos (by omega), if_pos (by omega), if_pos (by omega), rd29_get _ _ hir, rd29_get _ _ (by omega), hge.1, hge.2, if_neg (by simp), wrap_small (by omega) (by omega)]
    have := ih k (i + 1) (by omega) (by omega) (by omega)
    rw [show ((i + 1 : Nat) : Int) = (i : Int) + 1 from by omega] at this
    exact this
theorem TickHolds_F_l1 (t : Int) (l j : List S29) (hj : j.map sp29 = joined l) (hm : j.length < 1000) (w : Bool) (hw : w = l.any (hold t)) (d : Nat) : ∀ (k i : Nat), j.length - i = d → i ≤ j.length → 2 * d + 5000 ≤ k →
    berthinglaw01_TickHolds_F.l1 k t j ((j.take i).any (hold t)) w (i : Int) = some true := by
  obtain ⟨hf, _⟩ := joined_fine l
  induction d with
  | zero =>
    intro k i hd hi hk
    obtain ⟨k, rfl⟩ : ∃ m, k = m + 1 := ⟨k - 1, by omega⟩
    simp only [berthinglaw01_TickHolds_F.l1]
    rw [if_neg (by omega), List.take_of_length_le (by omega)]
    obtain ⟨q, hq, hqq⟩ := Join_tells j (by omega) k (by omega)
    have hqj : q.map sp29 = j.map sp29 := by rw [hqq]; show joined j = _; rw [hj]; exact joined_again l j hj
    have hl : q.length = j.length := by have := congrArg List.length hqj; simpa using this
    rw [hq]
    simp only [Option.bind_some]
    rw [if_pos (by omega), any_joined t l j hj, hw]
    exact TickHolds_F_l2 j q _ hqj (by omega) q.length k 0 (by omega) (by omega) (by omega)
  | succ d ih =>
    intro k i hd hi hk
    obtain ⟨k, rfl⟩ : ∃ m, k = m + 2 := ⟨k - 2, by omega⟩
    have hij : i < j.length := by omega
    have hmem : sp29 j[i] ∈ joined l := by rw [← hj]; exact List.mem_map_of_mem (List.getElem_mem hij)
    obtain ⟨g0, g1, g2⟩ := joined_range l _ hmem
    have g0' : 0 ≤ j[i].f0 := g0
    have g1' : j[i].f0 < j[i].f1 := g1
    have g2' : j[i].f1 ≤ 1099511627776 := g2
    have hnext : (j.take (i + 1)).any (hold t) = ((j.take i).any (hold t) || hold t j[i]) := by
      rw [List.take_succ_eq_append_getElem hij, List.any_append, List.any_cons, List.any_nil, Bool.or_false]
    have hj3 : ∀ b : Bool, b = (j.take (i + 1)).any (hold t) → berthinglaw01_TickHolds_F.j3 (k + 1) t j b w (i : Int) = some true := by
      intro b hb
      have hgo := ih k (i + 1) (by omega) (by omega) (by omega)
      rw [← hb, show ((i + 1 : Nat) : Int) = (i : Int) + 1 from by omega] at hgo
      simp only [berthinglaw01_TickHolds_F.j3]
      rw [if_pos (by omega), if_pos (by omega), rd29_get _ _ hij, Right_tells, Empty_tells]
      simp only [Option.bind_some]
      rw [decide_eq_true (show 0 ≤ j[i].f0 ∧ j[i].f0 ≤ j[i].f1 ∧ j[i].f1 ≤ 1099511627776 by omega), if_pos rfl]
      rw [cl_small (z := j[i].f1) (by omega) (by omega), cl_small (z := j[i].f0) (by omega) (by omega), decide_eq_false (show ¬ j[i].f1 ≤ j[i].f0 by omega), if_neg (by simp)]
      by_cases c : (i : Int) > 0
      · rw [if_pos c, wrap_small (x := (i : Int) - 1) (by omega) (by omega), if_pos (by omega), if_pos (by omega)]
        have hpi : rd_T29 j ((i : Int) - 1) = j[i - 1] := by rw [show (i : Int) - 1 = ((i - 1 : Nat) : Int) from by omega]; exact rd29_get _ _ (by omega)
        have hlt : j[i - 1].f1 < j[i].f0 := by
          have hp := hf.1
          rw [← hj, List.pairwise_map, List.pairwise_iff_getElem] at hp
          exact hp (i - 1) i (by omega) hij (by omega)
        rw [hpi, if_neg (by omega), wrap_small (by omega) (by omega)]
        exact hgo
      · rw [if_neg c, wrap_small (by omega) (by omega)]
        exact hgo
    simp only [berthinglaw01_TickHolds_F.l1]
    rw [if_pos (by omega)]
    by_cases c : (j.take i).any (hold t) = true
    · rw [if_pos c]
      exact hj3 _ (by rw [hnext, c]; rfl)
    · rw [if_neg c, if_pos (by omega), rd29_get _ _ hij, Holds_tells]
      simp only [Option.bind_some]
      exact hj3 _ (by rw [hnext, show (j.take i).any (hold t) = false by simpa using c]; rfl)
theorem TickHolds_F_l0 (t : Int) (l j : List S29) (hj : j.map sp29 = joined l) (hm : l.length < 1000) (hmj : j.length < 1000) (d : Nat) : ∀ (k i : Nat), l.length - i = d → i ≤ l.length → 2 * d + 8000 ≤ k →
    berthinglaw01_TickHolds_F.l0 k l t j false ((l.take i).any (hold t)) (i : Int) = some true := by
  induction d with
  | zero =>
    intro k i hd hi hk
    obtain ⟨k, rfl⟩ : ∃ m, k = m + 1 := ⟨k - 1, by omega⟩
    simp only [berthinglaw01_TickHolds_F.l0]
    rw [if_neg (by omega), List.take_of_length_le (by omega)]
    exact TickHolds_F_l1 t l j hj hmj _ rfl j.length k 0 (by omega) (by omega) (by omega)
  | succ d ih =>
    intro k i hd hi hk
    obtain ⟨k, rfl⟩ : ∃ m, k = m + 2 := ⟨k - 2, by omega⟩
    have hil : i < l.length := by omega
    have hnext : (l.take (i + 1)).any (hold t) = ((l.take i).any (hold t) || hold t l[i]) := by
      rw [List.take_succ_eq_append_getElem hil, List.any_append, List.any_cons, List.any_nil, Bool.or_false]
    have hj1 : ∀ b : Bool, b = (l.take (i + 1)).any (hold t) → berthinglaw01_TickHolds_F.j1 (k + 1) l t j false b (i : Int) = some true := by
      intro b hb
      have hgo := ih k (i + 1) (by omega) (by omega) (by omega)
      rw [← hb, show ((i + 1 : Nat) : Int) = (i : Int) + 1 from by omega] at hgo
      simp only [berthinglaw01_TickHolds_F.j1]
      by_cases c : (i : Int) > 0
      · rw [if_pos c, wrap_small (x := (i : Int) - 1) (by omega) (by omega), if_pos (by omega), if_pos (by omega), if_pos (by omega), if_pos (by omega)]
        have hpi : rd_T29 l ((i : Int) - 1) = l[i - 1] := by rw [show (i : Int) - 1 = ((i - 1 : Nat) : Int) from by omega]; exact rd29_get _ _ (by omega)
        rw [hpi, rd29_get _ _ hil, Cut_tells]
        simp only [Option.bind_some]
        rw [Holds_tells, Holds_tells, Holds_tells, hold_cut]
        simp only [Option.bind_some]
        by_cases c1 : cl l[i].f0 ≤ cl t ∧ cl t < cl l[i].f1
        · rw [decide_eq_true c1, if_pos rfl, Bool.true_and, if_neg (by simp), wrap_small (by omega) (by omega)]
          exact hgo
        · rw [decide_eq_false c1, if_neg (by simp), Bool.false_and, if_neg (by simp), wrap_small (by omega) (by omega)]
          exact hgo
      · rw [if_neg c, wrap_small (by omega) (by omega)]
        exact hgo
    simp only [berthinglaw01_TickHolds_F.l0]
    rw [if_pos (by omega)]
    by_cases c : (l.take i).any (hold t) = true
    · rw [if_pos c]
      exact hj1 _ (by rw [hnext, c]; rfl)
    · rw [if_neg c, if_pos (by omega), rd29_get _ _ hil, Holds_tells]
      simp only [Option.bind_some]
      exact hj1 _ (by rw [hnext, show (l.take i).any (hold t) = false by simpa using c]; rfl)
theorem TickHolds_T_l2 (j q : List S29) (b : Bool) (h : q.map sp29 = j.map sp29) (hm : j.length < 4398046511104) (d : Nat) : ∀ (k i : Nat), q.length - i = d → i ≤ q.length → d + 9 ≤ k → berthinglaw01_TickHolds_T.l2 k j b b q (i : Int) = some true := by
  have hl : q.length = j.length := by have := congrArg List.length h; simpa using this
  induction d with
  | zero =>
    intro k i hd hi hk
    obtain ⟨k, rfl⟩ : ∃ m, k = m + 1 := ⟨k - 1, by omega⟩
    simp only [berthinglaw01_TickHolds_T.l2]
    rw [if_neg (by omega), if_pos (by simp), one_tells k (by omega)]
    rfl
  | succ d ih =>
    intro k i hd hi hk
    obtain ⟨k, rfl⟩ : ∃ m, k = m + 1 := ⟨k - 1, by omega⟩
    have hir : i < q.length := by omega
    have hge : (q.map sp29)[i]? = (j.map sp29)[i]? := by rw [h]
    rw [List.getElem?_map, List.getElem?_map, List.getElem?_eq_getElem hir, List.getElem?_eq_getElem (by omega)] at hge
    simp only [Option.map_some, Option.some.injEq, sp29, Prod.mk.injEq] at hge
    simp only [berthinglaw01_TickHolds_T.l2]
    rw [if_pos (by omega), if_pos (by omega), if_pos (by omega), rd29_get _ _ hir, rd29_get _ _ (by omega), hge.1, hge.2, if_neg (by simp), wrap_small (by omega) (by omega)]
    have := ih k (i + 1) (by omega) (by omega) (by omega)
    rw [show ((i + 1 : Nat) : Int) = (i : Int) + 1 from by omega] at this
    exact this
theorem TickHolds_T_l1 (t : Int) (l j : List S29) (hj : j.map sp29 = joined l) (hm : j.length < 1000) (w : Bool) (hw : w = l.any (hold t)) (d : Nat) : ∀ (k i : Nat), j.length - i = d → i ≤ j.length → 2 * d + 5000 ≤ k →
    berthinglaw01_TickHolds_T.l1 k t j ((j.take i).any (hold t)) w (i : Int) = some true := by
  obtain ⟨hf, _⟩ := joined_fine l
  induction d with
  | zero =>
    intro k i hd hi hk
    obtain ⟨k, rfl⟩ : ∃ m, k = m + 1 := ⟨k - 1, by omega⟩
    simp only [berthinglaw01_TickHolds_T.l1]
    rw [if_neg (by omega), List.take_of_length_le (by omega)]
    obtain ⟨q, hq, hqq⟩ := Join_tells j (by omega) k (by omega)
    have hqj : q.map sp29 = j.map sp29 := by rw [hqq]; show joined j = _; rw [hj]; exact joined_again l j hj
    have hl : q.length = j.length := by have := congrArg List.length hqj; simpa using this
    rw [hq]
    simp only [Option.bind_some]
    rw [if_pos (by omega), any_joined t l j hj, hw]
    exact TickHolds_T_l2 j q _ hqj (by omega) q.length k 0 (by omega) (by omega) (by omega)
  | succ d ih =>
    intro k i hd hi hk
    obtain ⟨k, rfl⟩ : ∃ m, k = m + 2 := ⟨k - 2, by omega⟩
    have hij : i < j.length := by omega
    have hmem : sp29 j[i] ∈ joined l := by rw [← hj]; exact List.mem_map_of_mem (List.getElem_mem hij)
    obtain ⟨g0, g1, g2⟩ := joined_range l _ hmem
    have g0' : 0 ≤ j[i].f0 := g0
    have g1' : j[i].f0 < j[i].f1 := g1
    have g2' : j[i].f1 ≤ 1099511627776 := g2
    have hnext : (j.take (i + 1)).any (hold t) = ((j.take i).any (hold t) || hold t j[i]) := by
      rw [List.take_succ_eq_append_getElem hij, List.any_append, List.any_cons, List.any_nil, Bool.or_false]
    have hj3 : ∀ b : Bool, b = (j.take (i + 1)).any (hold t) → berthinglaw01_TickHolds_T.j3 (k + 1) t j b w (i : Int) = some true := by
      intro b hb
      have hgo := ih k (i + 1) (by omega) (by omega) (by omega)
      rw [← hb, show ((i + 1 : Nat) : Int) = (i : Int) + 1 from by omega] at hgo
      simp only [berthinglaw01_TickHolds_T.j3]
      rw [if_pos (by omega), if_pos (by omega), rd29_get _ _ hij, Right_tells, Empty_tells]
      simp only [Option.bind_some]
      rw [decide_eq_true (show 0 ≤ j[i].f0 ∧ j[i].f0 ≤ j[i].f1 ∧ j[i].f1 ≤ 1099511627776 by omega), if_pos rfl]
      rw [cl_small (z := j[i].f1) (by omega) (by omega), cl_small (z := j[i].f0) (by omega) (by omega), decide_eq_false (show ¬ j[i].f1 ≤ j[i].f0 by omega), if_neg (by simp)]
      by_cases c : (i : Int) > 0
      · rw [if_pos c, wrap_small (x := (i : Int) - 1) (by omega) (by omega), if_pos (by omega), if_pos (by omega)]
        have hpi : rd_T29 j ((i : Int) - 1) = j[i - 1] := by rw [show (i : Int) - 1 = ((i - 1 : Nat) : Int) from by omega]; exact rd29_get _ _ (by omega)
        have hlt : j[i - 1].f1 < j[i].f0 := by
          have hp := hf.1
          rw [← hj, List.pairwise_map, List.pairwise_iff_getElem] at hp
          exact hp (i - 1) i (by omega) hij (by omega)
        rw [hpi, if_neg (by omega), wrap_small (by omega) (by omega)]
        exact hgo
      · rw [if_neg c, wrap_small (by omega) (by omega)]
        exact hgo
    simp only [berthinglaw01_TickHolds_T.l1]
    rw [if_pos (by omega)]
    by_cases c : (j.take i).any (hold t) = true
    · rw [if_pos c]
      exact hj3 _ (by rw [hnext, c]; rfl)
    · rw [if_neg c, if_pos (by omega), rd29_get _ _ hij, Holds_tells]
      simp only [Option.bind_some]
      exact hj3 _ (by rw [hnext, show (j.take i).any (hold t) = false by simpa using c]; rfl)
theorem TickHolds_T_l0 (t : Int) (l j : List S29) (hj : j.map sp29 = joined l) (hm : l.length < 1000) (hmj : j.length < 1000) (d : Nat) : ∀ (k i : Nat), l.length - i = d → i ≤ l.length → 2 * d + 8000 ≤ k →
    berthinglaw01_TickHolds_T.l0 k l t j false ((l.take i).any (hold t)) (i : Int) = some true := by
  induction d with
  | zero =>
    intro k i hd hi hk
    obtain ⟨k, rfl⟩ : ∃ m, k = m + 1 := ⟨k - 1, by omega⟩
    simp only [berthinglaw01_TickHolds_T.l0]
    rw [if_neg (by omega), List.take_of_length_le (by omega)]
    exact TickHolds_T_l1 t l j hj hmj _ rfl j.length k 0 (by omega) (by omega) (by omega)
  | succ d ih =>
    intro k i hd hi hk
    obtain ⟨k, rfl⟩ : ∃ m, k = m + 2 := ⟨k - 2, by omega⟩
    have hil : i < l.length := by omega
    have hnext : (l.take (i + 1)).any (hold t) = ((l.take i).any (hold t) || hold t l[i]) := by
      rw [List.take_succ_eq_append_getElem hil, List.any_append, List.any_cons, List.any_nil, Bool.or_false]
    have hj1 : ∀ b : Bool, b = (l.take (i + 1)).any (hold t) → berthinglaw01_TickHolds_T.j1 (k + 1) l t j false b (i : Int) = some true := by
      intro b hb
      have hgo := ih k (i + 1) (by omega) (by omega) (by omega)
      rw [← hb, show ((i + 1 : Nat) : Int) = (i : Int) + 1 from by omega] at hgo
      simp only [berthinglaw01_TickHolds_T.j1]
      by_cases c : (i : Int) > 0
      · rw [if_pos c, wrap_small (x := (i : Int) - 1) (by omega) (by omega), if_pos (by omega), if_pos (by omega), if_pos (by omega), if_pos (by omega)]
        have hpi : rd_T29 l ((i : Int) - 1) = l[i - 1] := by rw [show (i : Int) - 1 = ((i - 1 : Nat) : Int) from by omega]; exact rd29_get _ _ (by omega)
        rw [hpi, rd29_get _ _ hil, Cut_tells]
        simp only [Option.bind_some]
        rw [Holds_tells, Holds_tells, Holds_tells, hold_cut]
        simp only [Option.bind_some]
        by_cases c1 : cl l[i].f0 ≤ cl t ∧ cl t < cl l[i].f1
        · rw [decide_eq_true c1, if_pos rfl, Bool.true_and, if_neg (by simp), wrap_small (by omega) (by omega)]
          exact hgo
        · rw [decide_eq_false c1, if_neg (by simp), Bool.false_and, if_neg (by simp), wrap_small (by omega) (by omega)]
          exact hgo
      · rw [if_neg c, wrap_small (by omega) (by omega)]
        exact hgo
    simp only [berthinglaw01_TickHolds_T.l0]
    rw [if_pos (by omega)]
    by_cases c : (l.take i).any (hold t) = true
    · rw [if_pos c]
      exact hj1 _ (by rw [hnext, c]; rfl)
    · rw [if_neg c, if_pos (by omega), rd29_get _ _ hil, Holds_tells]
      simp only [Option.bind_some]
      exact hj1 _ (by rw [hnext, show (l.take i).any (hold t) = false by simpa using c]; rfl)
theorem TickHolds_T_law (l : List S29) (t : Int) (h : 40 < l.length) : ∃ k, berthinglaw01_TickHolds_T.f k l t = some true := by
  obtain ⟨k, hk⟩ : ∃ k : Nat, 9000 ≤ k := ⟨9000, Nat.le_refl _⟩
  refine ⟨k, ?_⟩
  unfold berthinglaw01_TickHolds_T.f
  rw [if_pos (by omega), if_pos (by omega)]
  simp only [Option.bind_some]
  have hl : (l.take 40).length = 40 := by rw [List.length_take]; omega
  obtain ⟨j, hj, hq⟩ := Join_tells (l.take 40) (by omega) k (by omega)
  rw [hj]
  simp only [Option.bind_some]
  have hlj : j.length ≤ 40 := by have := joined_length (l.take 40); rw [← show j.map sp29 = joined (l.take 40) from hq, List.length_map] at this; omega
  exact TickHolds_T_l0 t (l.take 40) j hq (by omega) (by omega) 40 k 0 (by omega) (by omega) (by omega)
theorem TickHolds_F_law (l : List S29) (t : Int) (h : ¬ 40 < l.length) : ∃ k, berthinglaw01_TickHolds_F.f k l t = some true := by
  obtain ⟨k, hk⟩ : ∃ k : Nat, 9000 ≤ k := ⟨9000, Nat.le_refl _⟩
  refine ⟨k, ?_⟩
  unfold berthinglaw01_TickHolds_F.f
  rw [if_neg (by omega)]
  obtain ⟨j, hj, hq⟩ := Join_tells l (by omega) k (by omega)
  rw [hj]
  simp only [Option.bind_some]
  have hlj : j.length ≤ 40 := by have := joined_length l; rw [← show j.map sp29 = joined l from hq, List.length_map] at this; omega
  exact TickHolds_F_l0 t l j hq (by omega) (by omega) l.length k 0 (by omega) (by omega) (by omega)

end Go.Proofs.Ytgdlhfmdgibkbaa.PTick
