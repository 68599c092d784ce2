/-
  What is joined of any spans: over the printed functions. Conditions: none.
-/
import Derived.Test.YtgdlhfmdgibkbaaJoinLaw
namespace Go.Proofs.Ytgdlhfmdgibkbaa.PTick
open Go.RowKit Go.Proofs.YtgdlhfmdgibkbaaW.PrintWords Go.Proofs.YtgdlhfmdgibkbaaW.PrintLast Go.Proofs.YtgdlhfmdgibkbaaW.PrintMore
open Go.Proofs.SpanLaw

def own (x : S29) : S25 := ⟨x.f0, x.f1⟩
theorem map_own (l : List S29) : (l.map own).map sp25 = l.map sp29 := by rw [List.map_map]; rfl
theorem sp_get {r : List S29} {r' : List S25} (h : r.map sp29 = r'.map sp25) (i : Nat) (hi : i < r.length) (hi' : i < r'.length) : r[i].f0 = r'[i].f0 ∧ r[i].f1 = r'[i].f1 := by
  have h1 : (r.map sp29)[i]? = (r'.map sp25)[i]? := by rw [h]
  rw [List.getElem?_map, List.getElem?_map, List.getElem?_eq_getElem hi, List.getElem?_eq_getElem hi'] at h1
  simp only [Option.map_some, Option.some.injEq, sp29, sp25, Prod.mk.injEq] at h1
  exact h1

/-! ### what is joined -/
def joined (l : List S29) : List Sp := (cleaned (l.map sp29)).foldl put []
theorem joined_fine (l : List S29) : Fine (joined l) ∧ ∀ t, In t (joined l) ↔ In t (cleaned (l.map sp29)) := by
  obtain ⟨h1, h2⟩ := puts_fine (cleaned (l.map sp29)) [] fine_nil (cleaned_lt _)
  exact ⟨h1, fun t => by unfold joined; rw [h2]; simp [in_nil]⟩
theorem in_cleaned (t : Int) (l : List Sp) : In t (cleaned l) ↔ ∃ a ∈ l, cl a.1 ≤ t ∧ t < cl a.2 := by
  unfold In cleaned
  constructor
  · rintro ⟨a, ha, h1, h2⟩
    simp only [List.mem_map, List.mem_filter] at ha
    obtain ⟨x, ⟨hx, _⟩, rfl⟩ := ha
    exact ⟨x, hx, h1, h2⟩
  · rintro ⟨a, ha, h1, h2⟩
    refine ⟨(cl a.1, cl a.2), ?_, h1, h2⟩
    simp only [List.mem_map, List.mem_filter]
    exact ⟨a, ⟨ha, by simp only [alive, decide_eq_true_eq]; omega⟩, rfl⟩
theorem joined_range (l : List S29) : ∀ a ∈ joined l, 0 ≤ a.1 ∧ a.1 < a.2 ∧ a.2 ≤ 1099511627776 := by
  intro a ha
  obtain ⟨hf, hi⟩ := joined_fine l
  have hlt := hf.2 a ha
  obtain ⟨x, _, h1, _⟩ := (in_cleaned _ _).1 ((hi a.1).1 ⟨a, ha, Int.le_refl _, hlt⟩)
  obtain ⟨y, _, _, h2⟩ := (in_cleaned _ _).1 ((hi (a.2 - 1)).1 ⟨a, ha, by omega, by omega⟩)
  have := cl_range x.1
  have := cl_range y.2
  omega
theorem cleaned_same (l : List Sp) (h : ∀ a ∈ l, 0 ≤ a.1 ∧ a.1 < a.2 ∧ a.2 ≤ 1099511627776) : cleaned l = l := by
  induction l with
  | nil => rfl
  | cons a l ih =>
    have ha := h a List.mem_cons_self
    have e1 : cl a.1 = a.1 := by unfold cl; (repeat' split) <;> omega
    have e2 : cl a.2 = a.2 := by unfold cl; (repeat' split) <;> omega
    rw [cleaned_cons, if_pos (by simp only [alive, e1, e2, decide_eq_true_eq]; omega), e1, e2, ih (fun b hb => h b (List.mem_cons_of_mem _ hb))]
theorem joined_again (l : List S29) (j : List S29) (hj : j.map sp29 = joined l) : joined j = joined l := by
  obtain ⟨hf, hi⟩ := joined_fine l
  obtain ⟨hf', hi'⟩ := joined_fine j
  refine fine_unique _ _ hf' hf (fun t => ?_)
  rw [hi', hj, cleaned_same _ (joined_range l)]

theorem put_length (m : List Sp) : ∀ (o : List Sp), (m.foldl put o).length ≤ o.length + m.length := by
  induction m with
  | nil => intro o; simp
  | cons a m ihm =>
    intro o
    rw [List.foldl_cons]
    have h1 := ihm (put o a)
    have hs : ∀ (p : List Sp) (st : List Sp × Bool × Sp), (close (p.foldl seek st)).length ≤ st.1.length + p.length + (if st.2.1 = true then 0 else 1) := by
      intro p
      induction p with
      | nil =>
        intro st
        show (close st).length ≤ _
        unfold close
        by_cases c : st.2.1 = true
        · rw [if_pos c, if_pos c]; simp
        · rw [if_neg c, if_neg c]; simp
      | cons b p ihp =>
        intro st
        rw [List.foldl_cons]
        have h2 := ihp (seek st b)
        have h3 : (seek st b).1.length + (if (seek st b).2.1 = true then 0 else 1) ≤ st.1.length + 1 + (if st.2.1 = true then 0 else 1) := by
          unfold seek
          split
          · simp
          · split
            · split
              · simp
              · simp
            · simp
        rw [List.length_cons]
        omega
    have h4 := hs o ([], false, a)
    have h5 : (put o a).length ≤ o.length + 1 := by unfold put; simpa using h4
    rw [List.length_cons]
    omega
theorem joined_length (l : List S29) : (joined l).length ≤ l.length := by
  have h1 := put_length (cleaned (l.map sp29)) []
  have h2 := cleaned_length (l.map sp29)
  simp at h1 h2
  unfold joined
  omega

end Go.Proofs.Ytgdlhfmdgibkbaa.PTick
