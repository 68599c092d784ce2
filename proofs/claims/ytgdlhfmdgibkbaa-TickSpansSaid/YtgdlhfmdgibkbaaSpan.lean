/-
  Plain law on lists of spans (pairs of whole numbers), without any program: a list of spans that rises and whose spans do not touch is settled by the times that it holds; joining sorted spans one behind the other, and putting spans in one by one, both lead to such a list with the times of all of them.
-/
namespace Go.Proofs.SpanLaw

abbrev Sp := Int × Int

/-- Rising, not touching, none empty. -/
def Fine (l : List Sp) : Prop := l.Pairwise (fun a b => a.2 < b.1) ∧ ∀ a ∈ l, a.1 < a.2
/-- A time is in one of them. -/
def In (t : Int) (l : List Sp) : Prop := ∃ a ∈ l, a.1 ≤ t ∧ t < a.2

theorem fine_nil : Fine [] := ⟨List.Pairwise.nil, by simp⟩
theorem fine_cons {a : Sp} {l : List Sp} : Fine (a :: l) ↔ a.1 < a.2 ∧ (∀ b ∈ l, a.2 < b.1) ∧ Fine l := by
  unfold Fine
  rw [List.pairwise_cons]
  constructor
  · rintro ⟨⟨h1, h2⟩, h3⟩
    exact ⟨h3 a List.mem_cons_self, h1, h2, fun b hb => h3 b (List.mem_cons_of_mem _ hb)⟩
  · rintro ⟨h1, h2, h3, h4⟩
    refine ⟨⟨h2, h3⟩, fun b hb => ?_⟩
    rcases List.mem_cons.1 hb with rfl | hb
    · exact h1
    · exact h4 b hb
theorem in_nil (t : Int) : ¬ In t [] := by rintro ⟨a, h, _⟩; simp at h
theorem in_cons {t : Int} {a : Sp} {l : List Sp} : In t (a :: l) ↔ (a.1 ≤ t ∧ t < a.2) ∨ In t l := by
  unfold In
  simp
theorem in_append {t : Int} {l m : List Sp} : In t (l ++ m) ↔ In t l ∨ In t m := by
  induction l with
  | nil => simp [in_nil]
  | cons a l ih => rw [List.cons_append, in_cons, in_cons, ih, or_assoc]

theorem fine_unique : ∀ (l m : List Sp), Fine l → Fine m → (∀ t, In t l ↔ In t m) → l = m
  | [], [], _, _, _ => rfl
  | [], b :: m, _, hm, h => by
    have hb := (fine_cons.1 hm).1
    exact absurd ((h b.1).2 (in_cons.2 (.inl ⟨Int.le_refl _, hb⟩))) (in_nil _)
  | a :: l, [], hl, _, h => by
    have ha := (fine_cons.1 hl).1
    exact absurd ((h a.1).1 (in_cons.2 (.inl ⟨Int.le_refl _, ha⟩))) (in_nil _)
  | a :: l, b :: m, hl, hm, h => by
    obtain ⟨ha, hal, hl'⟩ := fine_cons.1 hl
    obtain ⟨hb, hbm, hm'⟩ := fine_cons.1 hm
    have low : ∀ {x : Sp} {r : List Sp}, x.1 < x.2 → (∀ y ∈ r, x.2 < y.1) → ∀ t, In t (x :: r) → x.1 ≤ t := by
      intro x r hx hr t ht
      rcases in_cons.1 ht with h | ⟨y, hy, h1, _⟩
      · exact h.1
      · have := hr y hy; omega
    have gap : ∀ {x : Sp} {r : List Sp}, x.1 < x.2 → (∀ y ∈ r, x.2 < y.1) → ¬ In x.2 (x :: r) := by
      intro x r hx hr ht
      rcases in_cons.1 ht with h | ⟨y, hy, h1, _⟩
      · omega
      · have := hr y hy; omega
    have e1 : a.1 = b.1 := by
      have h1 := low hb hbm a.1 ((h a.1).1 (in_cons.2 (.inl ⟨Int.le_refl _, ha⟩)))
      have h2 := low ha hal b.1 ((h b.1).2 (in_cons.2 (.inl ⟨Int.le_refl _, hb⟩)))
      omega
    have e2 : a.2 = b.2 := by
      rcases Int.lt_trichotomy a.2 b.2 with h1 | h1 | h1
      · exact absurd ((h a.2).2 (in_cons.2 (.inl ⟨by omega, h1⟩))) (gap ha hal)
      · exact h1
      · exact absurd ((h b.2).1 (in_cons.2 (.inl ⟨by omega, h1⟩))) (gap hb hbm)
    have e : a = b := Prod.ext e1 e2
    subst e
    rw [fine_unique l m hl' hm' (fun t => ?_)]
    have ht := h t
    rw [in_cons, in_cons] at ht
    constructor
    · intro hl1
      obtain ⟨y, hy, h1, h2⟩ := hl1
      have := hal y hy
      rcases ht.1 (.inr ⟨y, hy, h1, h2⟩) with h3 | h3
      · omega
      · exact h3
    · intro hl1
      obtain ⟨y, hy, h1, h2⟩ := hl1
      have := hbm y hy
      rcases ht.2 (.inr ⟨y, hy, h1, h2⟩) with h3 | h3
      · omega
      · exact h3

/-! ### one behind the other -/
/-- What is done with the next of sorted spans. -/
def joinStep (out : List Sp) (s : Sp) : List Sp :=
  match out.getLast? with
  | none => [s]
  | some x => if s.1 ≤ x.2 then out.dropLast ++ [(x.1, max x.2 s.2)] else out ++ [s]

theorem fine_snoc {o : List Sp} {x : Sp} : Fine (o ++ [x]) ↔ Fine o ∧ x.1 < x.2 ∧ ∀ y ∈ o, y.2 < x.1 := by
  unfold Fine
  rw [List.pairwise_append]
  constructor
  · rintro ⟨⟨h1, _, h2⟩, h3⟩
    exact ⟨⟨h1, fun a ha => h3 a (by simp [ha])⟩, h3 x (by simp), fun y hy => h2 y hy x (by simp)⟩
  · rintro ⟨⟨h1, h2⟩, h3, h4⟩
    refine ⟨⟨h1, by simp, fun a ha b hb => ?_⟩, fun a ha => ?_⟩
    · simp at hb; subst hb; exact h4 a ha
    · simp at ha
      rcases ha with ha | rfl
      · exact h2 a ha
      · exact h3

theorem joinStep_fine {out : List Sp} {s : Sp} (h : Fine out) (hs : s.1 < s.2) (hlast : ∀ a ∈ out, a.1 ≤ s.1) :
    Fine (joinStep out s) ∧ (∀ t, In t (joinStep out s) ↔ In t out ∨ (s.1 ≤ t ∧ t < s.2)) ∧ ∀ a ∈ joinStep out s, a.1 ≤ s.1 := by
  rcases List.eq_nil_or_concat out with rfl | ⟨o, x, rfl⟩
  · refine ⟨fine_cons.2 ⟨hs, by simp, fine_nil⟩, fun t => ?_, ?_⟩
    · simp only [joinStep, List.getLast?_nil]
      rw [in_cons]
      simp [in_nil]
    · simp [joinStep]
  · rw [List.concat_eq_append] at *
    obtain ⟨ho, hx, hy⟩ := fine_snoc.1 h
    have hxs : x.1 ≤ s.1 := hlast x (by simp)
    have hg : (o ++ [x]).getLast? = some x := by simp
    have hd : (o ++ [x]).dropLast = o := by simp
    by_cases c : s.1 ≤ x.2
    · have e : joinStep (o ++ [x]) s = o ++ [(x.1, max x.2 s.2)] := by simp only [joinStep, hg, hd, if_pos c]
      rw [e]
      refine ⟨fine_snoc.2 ⟨ho, by show x.1 < max x.2 s.2; omega, hy⟩, fun t => ?_, fun a ha => ?_⟩
      · rw [in_append, in_append, in_cons, in_cons]
        simp only [in_nil, or_false]
        rw [or_assoc]
        have : (x.1 ≤ t ∧ t < max x.2 s.2) ↔ ((x.1 ≤ t ∧ t < x.2) ∨ (s.1 ≤ t ∧ t < s.2)) := by omega
        rw [this]
      · simp at ha
        rcases ha with ha | rfl
        · exact hlast a (by simp [ha])
        · exact hxs
    · have e : joinStep (o ++ [x]) s = o ++ [x] ++ [s] := by simp only [joinStep, hg, if_neg c]
      rw [e]
      refine ⟨fine_snoc.2 ⟨h, hs, fun y hy' => ?_⟩, fun t => ?_, fun a ha => ?_⟩
      · simp at hy'
        rcases hy' with hy' | rfl
        · have := hy y hy'; omega
        · omega
      · rw [in_append, in_cons]
        simp [in_nil]
      · simp at ha
        rcases ha with ha | rfl | rfl
        · exact hlast a (by simp [ha])
        · exact hxs
        · exact Int.le_refl _

theorem steps_fine : ∀ (l out : List Sp), Fine out → (∀ a ∈ l, a.1 < a.2) → l.Pairwise (fun a b => a.1 ≤ b.1) → (∀ a ∈ out, ∀ b ∈ l, a.1 ≤ b.1) →
    Fine (l.foldl joinStep out) ∧ ∀ t, In t (l.foldl joinStep out) ↔ In t out ∨ In t l
  | [], out, h, _, _, _ => ⟨h, fun t => by simp [in_nil]⟩
  | s :: l, out, h, hn, hp, hb => by
    rw [List.pairwise_cons] at hp
    obtain ⟨h1, h2, h3⟩ := joinStep_fine h (hn s List.mem_cons_self) (fun a ha => hb a ha s List.mem_cons_self)
    obtain ⟨g1, g2⟩ := steps_fine l (joinStep out s) h1 (fun a ha => hn a (List.mem_cons_of_mem _ ha)) hp.2 (fun a ha b hb' => Int.le_trans (h3 a ha) (hp.1 b hb'))
    refine ⟨g1, fun t => ?_⟩
    rw [List.foldl_cons, g2, h2, in_cons, or_assoc]

/-! ### put in one by one -/
/-- What is done with one of those that are there: what goes on, whether the new one is put in, the new one. -/
def seek (st : List Sp × Bool × Sp) (o : Sp) : List Sp × Bool × Sp :=
  if o.2 < st.2.2.1 then (st.1 ++ [o], st.2.1, st.2.2)
  else if o.1 > st.2.2.2 then (if st.2.1 = true then (st.1 ++ [o], true, st.2.2) else (st.1 ++ [st.2.2] ++ [o], true, st.2.2))
  else (st.1, st.2.1, (min st.2.2.1 o.1, max st.2.2.2 o.2))
def close (st : List Sp × Bool × Sp) : List Sp := if st.2.1 = true then st.1 else st.1 ++ [st.2.2]
def put (out : List Sp) (s : Sp) : List Sp := close (out.foldl seek ([], false, s))

/-- Behind some of those that are there: all that went on, with the new one, is fine, and ahead of what is left; it holds the times of what was looked at and of the new one. -/
theorem seek_all : ∀ (l : List Sp) (next : List Sp) (done : Bool) (s : Sp), Fine l → s.1 < s.2 → Fine next → (∀ a ∈ next, ∀ b ∈ l, a.2 < b.1) →
    (done = false → ∀ a ∈ next, a.2 < s.1) → (done = true → ∀ b ∈ l, s.2 < b.1) → 
    Fine (close (l.foldl seek (next, done, s))) ∧ ∀ t, In t (close (l.foldl seek (next, done, s))) ↔ In t next ∨ In t l ∨ (done = false ∧ s.1 ≤ t ∧ t < s.2)
  | [], next, done, s, _, hs, hn, _, h1, _ => by
    cases done with
    | true => simp [close, in_nil, hn]
    | false =>
      simp only [List.foldl_nil, close]
      refine ⟨fine_snoc.2 ⟨hn, hs, h1 rfl⟩, fun t => ?_⟩
      simp only [Bool.false_eq_true, if_false]
      rw [in_append, in_cons]
      simp [in_nil]
  | o :: l, next, done, s, hl, hs, hn, hb, h1, h2 => by
    obtain ⟨ho, hol, hl'⟩ := fine_cons.1 hl
    rw [List.foldl_cons]
    have hno : ∀ a ∈ next, a.2 < o.1 := fun a ha => hb a ha o List.mem_cons_self
    have hsn : Fine (next ++ [o]) := fine_snoc.2 ⟨hn, ho, hno⟩
    by_cases c1 : o.2 < s.1
    · have e : seek (next, done, s) o = (next ++ [o], done, s) := by simp [seek, c1]
      rw [e]
      obtain ⟨g1, g2⟩ := seek_all l (next ++ [o]) done s hl' hs hsn
        (fun a ha b hb' => by
          simp at ha
          rcases ha with ha | rfl
          · exact hb a ha b (List.mem_cons_of_mem _ hb')
          · exact hol b hb')
        (fun hd a ha => by
          simp at ha
          rcases ha with ha | rfl
          · exact h1 hd a ha
          · exact c1)
        (fun hd b hb' => h2 hd b (List.mem_cons_of_mem _ hb'))
      refine ⟨g1, fun t => ?_⟩
      rw [g2, in_append, in_cons, in_cons]
      simp only [in_nil, or_false]
      constructor
      · rintro ((h | h) | h | h)
        · exact .inl h
        · exact .inr (.inl (.inl h))
        · exact .inr (.inl (.inr h))
        · exact .inr (.inr h)
      · rintro (h | (h | h) | h)
        · exact .inl (.inl h)
        · exact .inl (.inr h)
        · exact .inr (.inl h)
        · exact .inr (.inr h)
    · by_cases c2 : o.1 > s.2
      · cases done with
        | true =>
          have e : seek (next, true, s) o = (next ++ [o], true, s) := by simp [seek, c1, c2]
          rw [e]
          obtain ⟨g1, g2⟩ := seek_all l (next ++ [o]) true s hl' hs hsn
            (fun a ha b hb' => by
              simp at ha
              rcases ha with ha | rfl
              · exact hb a ha b (List.mem_cons_of_mem _ hb')
              · exact hol b hb')
            (fun hd => by simp at hd)
            (fun hd b hb' => h2 hd b (List.mem_cons_of_mem _ hb'))
          refine ⟨g1, fun t => ?_⟩
          rw [g2, in_append, in_cons, in_cons]
          simp only [in_nil, or_false, Bool.true_eq_false, false_and]
          rw [or_assoc]
        | false =>
          have e : seek (next, false, s) o = (next ++ [s] ++ [o], true, s) := by simp [seek, c1, c2]
          rw [e]
          have hns : Fine (next ++ [s]) := fine_snoc.2 ⟨hn, hs, h1 rfl⟩
          obtain ⟨g1, g2⟩ := seek_all l (next ++ [s] ++ [o]) true s hl' hs (fine_snoc.2 ⟨hns, ho, fun a ha => by
              simp at ha
              rcases ha with ha | rfl
              · exact hno a ha
              · omega⟩)
            (fun a ha b hb' => by
              have := hol b hb'
              simp at ha
              rcases ha with ha | rfl | rfl
              · exact hb a ha b (List.mem_cons_of_mem _ hb')
              · omega
              · exact this)
            (fun hd => by simp at hd)
            (fun hd b hb' => by have := hol b hb'; omega)
          refine ⟨g1, fun t => ?_⟩
          rw [g2, in_append, in_append, in_cons, in_cons, in_cons]
          simp only [in_nil, or_false, Bool.true_eq_false, false_and, true_and]
          constructor
          · rintro (((h | h) | h) | h)
            · exact .inl h
            · exact .inr (.inr h)
            · exact .inr (.inl (.inl h))
            · exact .inr (.inl (.inr h))
          · rintro (h | (h | h) | h)
            · exact .inl (.inl (.inl h))
            · exact .inl (.inr h)
            · exact .inr h
            · exact .inl (.inl (.inr h))
      · have hd : done = false := by
          cases done with
          | true => have := h2 rfl o List.mem_cons_self; omega
          | false => rfl
        subst hd
        have e : seek (next, false, s) o = (next, false, (min s.1 o.1, max s.2 o.2)) := by simp [seek, c1, c2]
        rw [e]
        obtain ⟨g1, g2⟩ := seek_all l next false (min s.1 o.1, max s.2 o.2) hl' (by show min s.1 o.1 < max s.2 o.2; omega) hn
          (fun a ha b hb' => hb a ha b (List.mem_cons_of_mem _ hb'))
          (fun _ a ha => by have := h1 rfl a ha; have := hno a ha; show a.2 < min s.1 o.1; omega)
          (fun hd => by simp at hd)
        refine ⟨g1, fun t => ?_⟩
        rw [g2, in_cons]
        have : (min s.1 o.1 ≤ t ∧ t < max s.2 o.2) ↔ ((o.1 ≤ t ∧ t < o.2) ∨ (s.1 ≤ t ∧ t < s.2)) := by omega
        simp only [true_and, this]
        constructor
        · rintro (h | h | h | h)
          · exact .inl h
          · exact .inr (.inl (.inr h))
          · exact .inr (.inl (.inl h))
          · exact .inr (.inr h)
        · rintro (h | (h | h) | h)
          · exact .inl h
          · exact .inr (.inr (.inl h))
          · exact .inr (.inl h)
          · exact .inr (.inr (.inr h))

theorem put_fine {out : List Sp} {s : Sp} (h : Fine out) (hs : s.1 < s.2) : Fine (put out s) ∧ ∀ t, In t (put out s) ↔ In t out ∨ (s.1 ≤ t ∧ t < s.2) := by
  obtain ⟨g1, g2⟩ := seek_all out [] false s h hs fine_nil (by simp) (by simp) (by simp)
  refine ⟨g1, fun t => ?_⟩
  unfold put
  rw [g2]
  simp [in_nil]

theorem puts_fine : ∀ (l out : List Sp), Fine out → (∀ a ∈ l, a.1 < a.2) → Fine (l.foldl put out) ∧ ∀ t, In t (l.foldl put out) ↔ In t out ∨ In t l
  | [], out, h, _ => ⟨h, fun t => by simp [in_nil]⟩
  | s :: l, out, h, hn => by
    obtain ⟨h1, h2⟩ := put_fine h (hn s List.mem_cons_self)
    obtain ⟨g1, g2⟩ := puts_fine l (put out s) h1 (fun a ha => hn a (List.mem_cons_of_mem _ ha))
    refine ⟨g1, fun t => ?_⟩
    rw [List.foldl_cons, g2, h2, in_cons, or_assoc]

theorem in_perm {l m : List Sp} (h : l.Perm m) (t : Int) : In t l ↔ In t m := by
  unfold In
  exact ⟨fun ⟨a, ha, h1⟩ => ⟨a, h.mem_iff.1 ha, h1⟩, fun ⟨a, ha, h1⟩ => ⟨a, h.mem_iff.2 ha, h1⟩⟩

/-- The two ways come to one. -/
theorem joins_same {l m : List Sp} (hp : l.Perm m) (hs : m.Pairwise (fun a b => a.1 ≤ b.1)) (hn : ∀ a ∈ l, a.1 < a.2) : m.foldl joinStep [] = l.foldl put [] := by
  obtain ⟨a1, a2⟩ := steps_fine m [] fine_nil (fun a ha => hn a (hp.mem_iff.2 ha)) hs (by simp)
  obtain ⟨b1, b2⟩ := puts_fine l [] fine_nil hn
  exact fine_unique _ _ a1 b1 (fun t => by rw [a2, b2, in_perm hp])

end Go.Proofs.SpanLaw
