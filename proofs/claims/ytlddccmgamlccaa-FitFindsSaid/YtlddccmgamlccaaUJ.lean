/-
 Plain law on lists of spans (pairs of whole numbers), without any program: a list of spans that rises and whose spans do not touch is settled by the times that it holds; joining sorted spans one behind the other, and putting spans in one by one, both lead to such a list with the times of all of them.
-/
import Derived.Test.YtlddccmgamlccaaUJoin
namespace Go.Proofs.SpanLaw

abbrev Sp := Int × Int

/-- Rising, not touching, none empty. -/
def Fine (l : List Sp) : Prop := l.Pairwise (fun a b => a.2 < b.1) ∧ ∀ a ∈ l, a.1 < a.2
/-- A time is in one of them. -/
def In (t : Int) (l : List Sp) : Prop := ∃ a ∈ l, a.1 ≤ t ∧ t < a.2

theorem fine_nil : Fine [] := ⟨List.Pairwise.nil, by simp⟩
theorem fine_cons {a : Sp} {l : List Sp} : Fine (a :: l) ↔ a.1 < a.2 ∧ (∀ b ∈ l, a.2 < b.1) ∧ Fine l := by
 unfold Fine
 rw [List.pairwise_cons]
 constructor
 ·rintro ⟨⟨h1, h2⟩, h3⟩
  exact ⟨h3 a List.mem_cons_self, h1, h2, fun b hb => h3 b (List.mem_cons_of_mem _ hb)⟩
 ·rintro ⟨h1, h2, h3, h4⟩
  refine ⟨⟨h2, h3⟩, fun b hb => ?_⟩
  rcases List.mem_cons.1 hb with rfl | hb
  ·exact h1
  ·exact h4 b hb
theorem in_nil (t : Int) : ¬ In t [] := by rintro ⟨a, h, _⟩; simp at h
theorem in_cons {t : Int} {a : Sp} {l : List Sp} : In t (a :: l) ↔ (a.1 ≤ t ∧ t < a.2) ∨ In t l := by
 unfold In
 simp
theorem in_append {t : Int} {l m : List Sp} : In t (l ++ m) ↔ In t l ∨ In t m := by
 induction l with
 | nil => simp [in_nil]
 | cons a l ih => rw [List.cons_append, in_cons, in_cons, ih, or_assoc]

theorem fine_unique : ∀ (l m : List Sp), Fine l → Fine m → (∀ t, In t l ↔ In t m) → l = m
 | [], [], _, _, _ => rfl
 | [], b :: m, _, hm, h => by
  have hb := (fine_cons.1 hm).1
  exact absurd ((h b.1).2 (in_cons.2 (.inl ⟨Int.le_refl _, hb⟩))) (in_nil _)
 | a :: l, [], hl, _, h => by
  have ha := (fine_cons.1 hl).1
  exact absurd ((h a.1).1 (in_cons.2 (.inl ⟨Int.le_refl _, ha⟩))) (in_nil _)
 | a :: l, b :: m, hl, hm, h => by
  obtain ⟨ha, hal, hl'⟩ := fine_cons.1 hl
  obtain ⟨hb, hbm, hm'⟩ := fine_cons.1 hm
  have low : ∀ {x : Sp} {r : List Sp}, x.1 < x.2 → (∀ y ∈ r, x.2 < y.1) → ∀ t, In t (x :: r) → x.1 ≤ t := by
   intro x r hx hr t ht
   rcases in_cons.1 ht with h | ⟨y, hy, h1, _⟩
   ·exact h.1
   ·have := hr y hy; omega
  have gap : ∀ {x : Sp} {r : List Sp}, x.1 < x.2 → (∀ y ∈ r, x.2 < y.1) → ¬ In x.2 (x :: r) := by
   intro x r hx hr ht
   rcases in_cons.1 ht with h | ⟨y, hy, h1, _⟩
   ·omega
   ·have := hr y hy; omega
  have e1 : a.1 = b.1 := by
   have h1 := low hb hbm a.1 ((h a.1).1 (in_cons.2 (.inl ⟨Int.le_refl _, ha⟩)))
   have h2 := low ha hal b.1 ((h b.1).2 (in_cons.2 (.inl ⟨Int.le_refl _, hb⟩)))
   omega
  have e2 : a.2 = b.2 := by
   rcases Int.lt_trichotomy a.2 b.2 with h1 | h1 | h1
   ·exact absurd ((h a.2).2 (in_cons.2 (.inl ⟨by omega, h1⟩))) (gap ha hal)
   ·exact h1
   ·exact absurd ((h b.2).1 (in_cons.2 (.inl ⟨by omega, h1⟩))) (gap hb hbm)
  have e : a = b := Prod.ext e1 e2
  subst e
  rw [fine_unique l m hl' hm' (fun t => ?_)]
  have ht := h t
  rw [in_cons, in_cons] at ht
  constructor
  ·intro hl1
   obtain ⟨y, hy, h1, h2⟩ := hl1
   have := hal y hy
   rcases ht.1 (.inr ⟨y, hy, h1, h2⟩) with h3 | h3
   ·omega
   ·exact h3
  ·intro hl1
   obtain ⟨y, hy, h1, h2⟩ := hl1
   have := hbm y hy
   rcases ht.2 (.inr ⟨y, hy, h1, h2⟩) with h3 | h3
   ·omega
   ·exact h3

/-! ### one behind the other -/
/-- What is done with the next of sorted spans. -/
def joinStep (out : List Sp) (s : Sp) : List Sp :=
 match out.getLast? with
 | none => [s]
 | some x => if s.1 ≤ x.2 then out.dropLast ++ [(x.1, max x.2 s.2)] else out ++ [s]

theorem fine_snoc {o : List Sp} {x : Sp} : Fine (o ++ [x]) ↔ Fine o ∧ x.1 < x.2 ∧ ∀ y ∈ o, y.2 < x.1 := by
 unfold Fine
 rw [List.pairwise_append]
 constructor
 ·rintro ⟨⟨h1, _, h2⟩, h3⟩
  exact ⟨⟨h1, fun a ha => h3 a (by simp [ha])⟩, h3 x (by simp), fun y hy => h2 y hy x (by simp)⟩
 ·rintro ⟨⟨h1, h2⟩, h3, h4⟩
  refine ⟨⟨h1, by simp, fun a ha b hb => ?_⟩, fun a ha => ?_⟩
  ·simp at hb; subst hb; exact h4 a ha
  ·simp at ha
   rcases ha with ha | rfl
   ·exact h2 a ha
   ·exact h3

theorem joinStep_fine {out : List Sp} {s : Sp} (h : Fine out) (hs : s.1 < s.2) (hlast : ∀ a ∈ out, a.1 ≤ s.1) :
  Fine (joinStep out s) ∧ (∀ t, In t (joinStep out s) ↔ In t out ∨ (s.1 ≤ t ∧ t < s.2)) ∧ ∀ a ∈ joinStep out s, a.1 ≤ s.1 := by
 rcases List.eq_nil_or_concat out with rfl | ⟨o, x, rfl⟩
 ·refine ⟨fine_cons.2 ⟨hs, by simp, fine_nil⟩, fun t => ?_, ?_⟩
  ·simp only [joinStep, List.getLast?_nil]
   rw [in_cons]
   simp [in_nil]
  ·simp [joinStep]
 ·rw [List.concat_eq_append] at *
  obtain ⟨ho, hx, hy⟩ := fine_snoc.1 h
  have hxs : x.1 ≤ s.1 := hlast x (by simp)
  have hg : (o ++ [x]).getLast? = some x := by simp
  have hd : (o ++ [x]).dropLast = o := by simp
  by_cases c : s.1 ≤ x.2
  ·have e : joinStep (o ++ [x]) s = o ++ [(x.1, max x.2 s.2)] := by simp only [joinStep, hg, hd, if_pos c]
   rw [e]
   refine ⟨fine_snoc.2 ⟨ho, by show x.1 < max x.2 s.2; omega, hy⟩, fun t => ?_, fun a ha => ?_⟩
   ·rw [in_append, in_append, in_cons, in_cons]
    simp only [in_nil, or_false]
    rw [or_assoc]
    have : (x.1 ≤ t ∧ t < max x.2 s.2) ↔ ((x.1 ≤ t ∧ t < x.2) ∨ (s.1 ≤ t ∧ t < s.2)) := by omega
    rw [this]
   ·simp at ha
    rcases ha with ha | rfl
    ·exact hlast a (by simp [ha])
    ·exact hxs
  ·have e : joinStep (o ++ [x]) s = o ++ [x] ++ [s] := by simp only [joinStep, hg, if_neg c]
   rw [e]
   refine ⟨fine_snoc.2 ⟨h, hs, fun y hy' => ?_⟩, fun t => ?_, fun a ha => ?_⟩
   ·simp at hy'
    rcases hy' with hy' | rfl
    ·have := hy y hy'; omega
    ·omega
   ·rw [in_append, in_cons]
    simp [in_nil]
   ·simp at ha
    rcases ha with ha | rfl | rfl
    ·exact hlast a (by simp [ha])
    ·exact hxs
    ·exact Int.le_refl _

theorem steps_fine : ∀ (l out : List Sp), Fine out → (∀ a ∈ l, a.1 < a.2) → l.Pairwise (fun a b => a.1 ≤ b.1) → (∀ a ∈ out, ∀ b ∈ l, a.1 ≤ b.1) →
  Fine (l.foldl joinStep out) ∧ ∀ t, In t (l.foldl joinStep out) ↔ In t out ∨ In t l
 | [], out, h, _, _, _ => ⟨h, fun t => by simp [in_nil]⟩
 | s :: l, out, h, hn, hp, hb => by
  rw [List.pairwise_cons] at hp
  obtain ⟨h1, h2, h3⟩ := joinStep_fine h (hn s List.mem_cons_self) (fun a ha => hb a ha s List.mem_cons_self)
  obtain ⟨g1, g2⟩ := steps_fine l (joinStep out s) h1 (fun a ha => hn a (List.mem_cons_of_mem _ ha)) hp.2 (fun a ha b hb' => Int.le_trans (h3 a ha) (hp.1 b hb'))
  refine ⟨g1, fun t => ?_⟩
  rw [List.foldl_cons, g2, h2, in_cons, or_assoc]

/-! ### put in one by one -/
/-- What is done with one of those that are there: what goes on, whether the new one is put in, the new one. -/
def seek (st : List Sp × Bool × Sp) (o : Sp) : List Sp × Bool × Sp :=
 if o.2 < st.2.2.1 then (st.1 ++ [o], st.2.1, st.2.2)
 else if o.1 > st.2.2.2 then (if st.2.1 = true then (st.1 ++ [o], true, st.2.2) else (st.1 ++ [st.2.2] ++ [o], true, st.2.2))
 else (st.1, st.2.1, (min st.2.2.1 o.1, max st.2.2.2 o.2))
def close (st : List Sp × Bool × Sp) : List Sp := if st.2.1 = true then st.1 else st.1 ++ [st.2.2]
def put (out : List Sp) (s : Sp) : List Sp := close (out.foldl seek ([], false, s))

/-- Behind some of those that are there: all that went on, with the new one, is fine, and ahead of what is left; it holds the times of what was looked at and of the new one. -/
theorem seek_all : ∀ (l : List Sp) (next : List Sp) (done : Bool) (s : Sp), Fine l → s.1 < s.2 → Fine next → (∀ a ∈ next, ∀ b ∈ l, a.2 < b.1) →
  (done = false → ∀ a ∈ next, a.2 < s.1) → (done = true → ∀ b ∈ l, s.2 < b.1) → 
  Fine (close (l.foldl seek (next, done, s))) ∧ ∀ t, In t (close (l.foldl seek (next, done, s))) ↔ In t next ∨ In t l ∨ (done = false ∧ s.1 ≤ t ∧ t < s.2)
 | [], next, done, s, _, hs, hn, _, h1, _ => by
  cases done with
  | true => simp [close, in_nil, hn]
  | false =>
   simp only [List.foldl_nil, close]
   refine ⟨fine_snoc.2 ⟨hn, hs, h1 rfl⟩, fun t => ?_⟩
   simp only [Bool.false_eq_true, if_false]
   rw [in_append, in_cons]
   simp [in_nil]
 | o :: l, next, done, s, hl, hs, hn, hb, h1, h2 => by
  obtain ⟨ho, hol, hl'⟩ := fine_cons.1 hl
  rw [List.foldl_cons]
  have hno : ∀ a ∈ next, a.2 < o.1 := fun a ha => hb a ha o List.mem_cons_self
  have hsn : Fine (next ++ [o]) := fine_snoc.2 ⟨hn, ho, hno⟩
  by_cases c1 : o.2 < s.1
  ·have e : seek (next, done, s) o = (next ++ [o], done, s) := by simp [seek, c1]
   rw [e]
   obtain ⟨g1, g2⟩ := seek_all l (next ++ [o]) done s hl' hs hsn
    (fun a ha b hb' => by
     simp at ha
     rcases ha with ha | rfl
     ·exact hb a ha b (List.mem_cons_of_mem _ hb')
     ·exact hol b hb')
    (fun hd a ha => by
     simp at ha
     rcases ha with ha | rfl
     ·exact h1 hd a ha
     ·exact c1)
    (fun hd b hb' => h2 hd b (List.mem_cons_of_mem _ hb'))
   refine ⟨g1, fun t => ?_⟩
   rw [g2, in_append, in_cons, in_cons]
   simp only [in_nil, or_false]
   constructor
   ·rintro ((h | h) | h | h)
    ·exact .inl h
    ·exact .inr (.inl (.inl h))
    ·exact .inr (.inl (.inr h))
    ·exact .inr (.inr h)
   ·rintro (h | (h | h) | h)
    ·exact .inl (.inl h)
    ·exact .inl (.inr h)
    ·exact .inr (.inl h)
    ·exact .inr (.inr h)
  ·by_cases c2 : o.1 > s.2
   ·cases done with
    | true =>
     have e : seek (next, true, s) o = (next ++ [o], true, s) := by simp [seek, c1, c2]
     rw [e]
     obtain ⟨g1, g2⟩ := seek_all l (next ++ [o]) true s hl' hs hsn
      (fun a ha b hb' => by
       simp at ha
       rcases ha with ha | rfl
       ·exact hb a ha b (List.mem_cons_of_mem _ hb')
       ·exact hol b hb')
      (fun hd => by simp at hd)
      (fun hd b hb' => h2 hd b (List.mem_cons_of_mem _ hb'))
     refine ⟨g1, fun t => ?_⟩
     rw [g2, in_append, in_cons, in_cons]
     simp only [in_nil, or_false, Bool.true_eq_false, false_and]
     rw [or_assoc]
    | false =>
     have e : seek (next, false, s) o = (next ++ [s] ++ [o], true, s) := by simp [seek, c1, c2]
     rw [e]
     have hns : Fine (next ++ [s]) := fine_snoc.2 ⟨hn, hs, h1 rfl⟩
     obtain ⟨g1, g2⟩ := seek_all l (next ++ [s] ++ [o]) true s hl' hs (fine_snoc.2 ⟨hns, ho, fun a ha => by
       simp at ha
       rcases ha with ha | rfl
       ·exact hno a ha
       ·omega⟩)
      (fun a ha b hb' => by
       have := hol b hb'
       simp at ha
       rcases ha with ha | rfl | rfl
       ·exact hb a ha b (List.mem_cons_of_mem _ hb')
       ·omega
       ·exact this)
      (fun hd => by simp at hd)
      (fun hd b hb' => by have := hol b hb'; omega)
     refine ⟨g1, fun t => ?_⟩
     rw [g2, in_append, in_append, in_cons, in_cons, in_cons]
     simp only [in_nil, or_false, Bool.true_eq_false, false_and, true_and]
     constructor
     ·rintro (((h | h) | h) | h)
      ·exact .inl h
      ·exact .inr (.inr h)
      ·exact .inr (.inl (.inl h))
      ·exact .inr (.inl (.inr h))
     ·rintro (h | (h | h) | h)
      ·exact .inl (.inl (.inl h))
      ·exact .inl (.inr h)
      ·exact .inr h
      ·exact .inl (.inl (.inr h))
   ·have hd : done = false := by
     cases done with
     | true => have := h2 rfl o List.mem_cons_self; omega
     | false => rfl
    subst hd
    have e : seek (next, false, s) o = (next, false, (min s.1 o.1, max s.2 o.2)) := by simp [seek, c1, c2]
    rw [e]
    obtain ⟨g1, g2⟩ := seek_all l next false (min s.1 o.1, max s.2 o.2) hl' (by show min s.1 o.1 < max s.2 o.2; omega) hn
     (fun a ha b hb' => hb a ha b (List.mem_cons_of_mem _ hb'))
     (fun _ a ha => by have := h1 rfl a ha; have := hno a ha; show a.2 < min s.1 o.1; omega)
     (fun hd => by simp at hd)
    refine ⟨g1, fun t => ?_⟩
    rw [g2, in_cons]
    have : (min s.1 o.1 ≤ t ∧ t < max s.2 o.2) ↔ ((o.1 ≤ t ∧ t < o.2) ∨ (s.1 ≤ t ∧ t < s.2)) := by omega
    simp only [true_and, this]
    constructor
    ·rintro (h | h | h | h)
     ·exact .inl h
     ·exact .inr (.inl (.inr h))
     ·exact .inr (.inl (.inl h))
     ·exact .inr (.inr h)
    ·rintro (h | (h | h) | h)
     ·exact .inl h
     ·exact .inr (.inr (.inl h))
     ·exact .inr (.inl h)
     ·exact .inr (.inr (.inr h))

theorem put_fine {out : List Sp} {s : Sp} (h : Fine out) (hs : s.1 < s.2) : Fine (put out s) ∧ ∀ t, In t (put out s) ↔ In t out ∨ (s.1 ≤ t ∧ t < s.2) := by
 obtain ⟨g1, g2⟩ := seek_all out [] false s h hs fine_nil (by simp) (by simp) (by simp)
 refine ⟨g1, fun t => ?_⟩
 unfold put
 rw [g2]
 simp [in_nil]

theorem puts_fine : ∀ (l out : List Sp), Fine out → (∀ a ∈ l, a.1 < a.2) → Fine (l.foldl put out) ∧ ∀ t, In t (l.foldl put out) ↔ In t out ∨ In t l
 | [], out, h, _ => ⟨h, fun t => by simp [in_nil]⟩
 | s :: l, out, h, hn => by
  obtain ⟨h1, h2⟩ := put_fine h (hn s List.mem_cons_self)
  obtain ⟨g1, g2⟩ := puts_fine l (put out s) h1 (fun a ha => hn a (List.mem_cons_of_mem _ ha))
  refine ⟨g1, fun t => ?_⟩
  rw [List.foldl_cons, g2, h2, in_cons, or_assoc]

theorem in_perm {l m : List Sp} (h : l.Perm m) (t : Int) : In t l ↔ In t m := by
 unfold In
 exact ⟨fun ⟨a, ha, h1⟩ => ⟨a, h.mem_iff.1 ha, h1⟩, fun ⟨a, ha, h1⟩ => ⟨a, h.mem_iff.2 ha, h1⟩⟩

/-- The two ways come to one. -/
theorem joins_same {l m : List Sp} (hp : l.Perm m) (hs : m.Pairwise (fun a b => a.1 ≤ b.1)) (hn : ∀ a ∈ l, a.1 < a.2) : m.foldl joinStep [] = l.foldl put [] := by
 obtain ⟨a1, a2⟩ := steps_fine m [] fine_nil (fun a ha => hn a (hp.mem_iff.2 ha)) hs (by simp)
 obtain ⟨b1, b2⟩ := puts_fine l [] fine_nil hn
 exact fine_unique _ _ a1 b1 (fun t => by rw [a2, b2, in_perm hp])

end Go.Proofs.SpanLaw

namespace Go.Proofs.Ytlddccmgamlccaa.PJoin
open Go.RowKit Go.Proofs.YtlddccmgamlccaaW.PrintWords Go.Proofs.YtlddccmgamlccaaW.PrintLast Go.Proofs.YtlddccmgamlccaaW.PrintMore
open Go.Proofs.SpanLaw

/-- The nearest time from 0 to 2^40. -/
def cl (t : Int) : Int := if t < 0 then 0 else if t > 1099511627776 then 1099511627776 else t
theorem cl_range (t : Int) : 0 ≤ cl t ∧ cl t ≤ 1099511627776 := by unfold cl; split <;> (try split) <;> omega
theorem cl_mx (t : Int) : mx 0 (mn t 1099511627776) = cl t := by unfold cl mx mn; split <;> split <;> (try split) <;> omega
theorem tick_Clamp_tells (t : Int) : tick_Clamp.f t = some (cl t) := by unfold tick_Clamp.f; rw [cl_mx]
theorem cl_cl (t : Int) : cl (cl t) = cl t := by unfold cl; (repeat' split) <;> omega
theorem clean_tells (a b : Int) : tick_Span_clean.f a b = some (cl a, cl b) := by unfold tick_Span_clean.f; rw [tick_Clamp_tells, tick_Clamp_tells]; rfl
theorem Empty_tells (a b : Int) : tick_Span_Empty.f a b = some (decide (cl b ≤ cl a)) := by unfold tick_Span_Empty.f; rw [clean_tells]; rfl
theorem wrap_small {x : Int} (h0 : -9223372036854775808 ≤ x) (h1 : x ≤ 9223372036854775807) : wrap64 x = x := by unfold wrap64; omega

theorem cl_small {z : Int} (h0 : 0 ≤ z) (h1 : z ≤ 1099511627776) : cl z = z := by unfold cl; (repeat' split) <;> omega
theorem cl_min {z : Int} (h0 : 0 ≤ z) : cl z = min 1099511627776 z := by unfold cl; (repeat' split) <;> omega
theorem cl_mono {a b : Int} (h : a ≤ b) : cl a ≤ cl b := by unfold cl; (repeat' split) <;> omega
/-! ### tick.Join -/
def spS (x : S25) : Sp := (x.f0, x.f1)
def alive (x : Int × Int) : Bool := decide (cl x.1 < cl x.2)
/-- The spans that are not empty, as their times count. -/
def cleaned (l : List Sp) : List Sp := (l.filter alive).map fun x => (cl x.1, cl x.2)
theorem aliveS (x : S25) : alive (spS x) = decide (cl x.f0 < cl x.f1) := rfl
theorem cleaned_cons (x : Sp) (l : List Sp) : cleaned (x :: l) = if alive x = true then (cl x.1, cl x.2) :: cleaned l else cleaned l := by
 unfold cleaned
 rw [List.filter_cons]
 split <;> simp
theorem cleaned_lt (l : List Sp) : ∀ a ∈ cleaned l, a.1 < a.2 := by
 intro a ha
 simp only [cleaned, List.mem_map, List.mem_filter] at ha
 obtain ⟨x, ⟨_, hx⟩, rfl⟩ := ha
 simpa [alive] using hx
theorem cleaned_length (l : List Sp) : (cleaned l).length ≤ l.length := by
 unfold cleaned
 rw [List.length_map]
 exact List.length_filter_le _ _

theorem rdS_get (l : List S25) (i : Nat) (h : i < l.length) : rd_T25 l (i : Int) = l[i] := by
 unfold rd_T25
 rw [Int.toNat_natCast, List.getD_eq_getElem?_getD, List.getElem?_eq_getElem h, Option.getD_some]

/-- One round of the second loop. -/
theorem join_l1 (d : Nat) : ∀ (k : Nat) (x6 x27 : List S25) (i : Nat), x27.length - i = d → i ≤ x27.length → x27.length < 4398046511104 → x6.length ≤ i → d < k →
  ∃ r, tick_Join.l1 k x6 x27 (x27.length : Int) (i : Int) = some r ∧ r.map spS = ((x27.drop i).map spS).foldl joinStep (x6.map spS) := by
 induction d with
 | zero =>
  intro k x6 x27 i hd hi hm h6 hk
  obtain ⟨k, rfl⟩ : ∃ m, k = m + 1 := ⟨k - 1, by omega⟩
  have hi' : i = x27.length := by omega
  refine ⟨x6, ?_, ?_⟩
  ·simp only [tick_Join.l1]
   rw [if_neg (by omega)]
  ·rw [List.drop_of_length_le (by omega)]
   rfl
 | succ d ih =>
  intro k x6 x27 i hd hi hm h6 hk
  obtain ⟨k, rfl⟩ : ∃ m, k = m + 1 := ⟨k - 1, by omega⟩
  have hlt : i < x27.length := by omega
  have hdrop : x27.drop i = x27[i] :: x27.drop (i + 1) := List.drop_eq_getElem_cons hlt
  have hw : wrap64 ((i : Int) + 1) = ((i + 1 : Nat) : Int) := by rw [wrap_small (by omega) (by omega)]; omega
  simp only [tick_Join.l1]
  rw [if_pos (by omega), if_pos (by omega), if_pos (by omega), rdS_get _ _ hlt, hw]
  rcases List.eq_nil_or_concat x6 with rfl | ⟨o, x, rfl⟩
  ·rw [if_neg (by simp), if_pos (by simp)]
   obtain ⟨r, hr, hq⟩ := ih k [⟨x27[i].f0, x27[i].f1⟩] x27 (i + 1) (by omega) (by omega) hm (by simp) (by omega)
   refine ⟨r, hr, ?_⟩
   rw [hq, hdrop]
   rfl
  ·rw [List.concat_eq_append] at *
   have hlen : (o ++ [x]).length = o.length + 1 := by simp
   have hl1 : wrap64 (((o ++ [x]).length : Int) - 1) = (o.length : Int) := by rw [hlen, wrap_small (by omega) (by omega)]; omega
   have hlast : rd_T25 (o ++ [x]) (o.length : Int) = x := by rw [rdS_get _ _ (by omega)]; simp
   rw [if_pos (by omega), hl1, if_pos (by omega), if_pos (by omega), hlast]
   have hg : ((o ++ [x]).map spS).getLast? = some (spS x) := by simp
   by_cases c : x27[i].f0 ≤ x.f1
   ·rw [if_pos c]
    have hset : (o ++ [x]).set ((o.length : Int)).toNat ⟨x.f0, mx x.f1 x27[i].f1⟩ = o ++ [⟨x.f0, mx x.f1 x27[i].f1⟩] := by
     rw [Int.toNat_natCast]
     simp
    rw [hset]
    obtain ⟨r, hr, hq⟩ := ih k (o ++ [⟨x.f0, mx x.f1 x27[i].f1⟩]) x27 (i + 1) (by omega) (by omega) hm (by simp at h6 ⊢; omega) (by omega)
    refine ⟨r, hr, ?_⟩
    rw [hq, hdrop, List.map_cons, List.foldl_cons]
    congr 1
    unfold joinStep
    rw [hg]
    simp only []
    rw [if_pos (show (spS x27[i]).1 ≤ (spS x).2 from c)]
    have hmx : mx x.f1 x27[i].f1 = max x.f1 x27[i].f1 := by unfold mx; omega
    simp [spS, hmx]
   ·rw [if_neg c, if_pos (by omega)]
    obtain ⟨r, hr, hq⟩ := ih k (o ++ [x] ++ [⟨x27[i].f0, x27[i].f1⟩]) x27 (i + 1) (by omega) (by omega) hm (by simp at h6 ⊢; omega) (by omega)
    refine ⟨r, hr, ?_⟩
    rw [hq, hdrop, List.map_cons, List.foldl_cons]
    congr 1
    unfold joinStep
    rw [hg]
    simp only []
    rw [if_neg (show ¬ (spS x27[i]).1 ≤ (spS x).2 from c)]
    simp [spS]

/-- The first loop, and what follows. -/
theorem join_l0 (d : Nat) : ∀ (k : Nat) (x3 x10 : List S25) (i : Nat), x10.length - i = d → i ≤ x10.length → x10.length < 4398046511104 → x3.length ≤ i → d + x10.length + 1 < k →
  (∀ a ∈ x3, a.f0 < a.f1) →
  ∃ r, tick_Join.l0 k x3 x10 (x10.length : Int) (i : Int) = some r ∧ r.map spS = (x3.map spS ++ cleaned ((x10.drop i).map spS)).foldl put [] := by
 induction d with
 | zero =>
  intro k x3 x10 i hd hi hm h3 hk hlt
  obtain ⟨k, rfl⟩ : ∃ m, k = m + 1 := ⟨k - 1, by omega⟩
  simp only [tick_Join.l0]
  rw [if_neg (by omega)]
  have hsf : ∃ s, slices_SortFunc.f x3 = some s := by unfold slices_SortFunc.f; rw [if_pos (by omega)]; exact ⟨_, rfl⟩
  obtain ⟨s, hs⟩ := hsf
  obtain ⟨hp, hso, hl⟩ := slices_SortFunc.tells hs
  rw [hs]
  simp only [Option.bind_some]
  rw [← hl]
  obtain ⟨r, hr, hq⟩ := join_l1 (s.length - 0) k [] s 0 rfl (Nat.zero_le _) (by omega) (Nat.le_refl _) (by omega)
  refine ⟨r, hr, ?_⟩
  rw [hq, List.drop_zero, List.drop_of_length_le (by omega)]
  simp only [List.map_nil, cleaned, List.filter_nil, List.append_nil]
  refine joins_same (hp.symm.map spS) ?_ ?_
  ·rw [List.pairwise_map]
   exact hso
  ·intro a ha
   obtain ⟨x, hx, rfl⟩ := List.mem_map.1 ha
   exact hlt x hx
 | succ d ih =>
  intro k x3 x10 i hd hi hm h3 hk hlt
  obtain ⟨k, rfl⟩ : ∃ m, k = m + 1 := ⟨k - 1, by omega⟩
  have hli : i < x10.length := by omega
  have hdrop : x10.drop i = x10[i] :: x10.drop (i + 1) := List.drop_eq_getElem_cons hli
  have hw : wrap64 ((i : Int) + 1) = ((i + 1 : Nat) : Int) := by rw [wrap_small (by omega) (by omega)]; omega
  simp only [tick_Join.l0]
  rw [if_pos (by omega), if_pos (by omega), if_pos (by omega), rdS_get _ _ hli, hw, Empty_tells, clean_tells]
  simp only [Option.bind_some]
  rw [hdrop, List.map_cons, cleaned_cons]
  by_cases c : cl x10[i].f1 ≤ cl x10[i].f0
  ·rw [if_pos (by simpa using c), if_neg (by rw [aliveS]; simpa using c)]
   exact ih k x3 x10 (i + 1) (by omega) (by omega) hm (by omega) (by omega) hlt
  ·rw [if_neg (by simpa using c), if_pos (by omega), if_pos (by rw [aliveS]; simpa using c)]
   obtain ⟨r, hr, hq⟩ := ih k (x3 ++ [⟨cl x10[i].f0, cl x10[i].f1⟩]) x10 (i + 1) (by omega) (by omega) hm (by simp; omega) (by omega) (by
    intro a ha
    simp at ha
    rcases ha with ha | rfl
    ·exact hlt a ha
    ·simp only []; omega)
   refine ⟨r, hr, ?_⟩
   rw [hq]
   simp [spS]

theorem Join_tells (l : List S25) (hm : l.length < 4398046511104) (k : Nat) (hk : 2 * l.length + 1 < k) : ∃ r, tick_Join.f k l = some r ∧ r.map spS = (cleaned (l.map spS)).foldl put [] := by
 obtain ⟨r, hr, hq⟩ := join_l0 l.length k [] l 0 (by omega) (by omega) hm (Nat.le_refl _) (by omega) (by simp)
 refine ⟨r, hr, ?_⟩
 rw [hq]
 simp

/-! ### what is joined -/
def joined (l : List S25) : List Sp := (cleaned (l.map spS)).foldl put []
theorem joined_fine (l : List S25) : Fine (joined l) ∧ ∀ t, In t (joined l) ↔ In t (cleaned (l.map spS)) := by
 obtain ⟨h1, h2⟩ := puts_fine (cleaned (l.map spS)) [] fine_nil (cleaned_lt _)
 exact ⟨h1, fun t => by unfold joined; rw [h2]; simp [in_nil]⟩
theorem in_cleaned (t : Int) (l : List Sp) : In t (cleaned l) ↔ ∃ a ∈ l, cl a.1 ≤ t ∧ t < cl a.2 := by
 unfold In cleaned
 constructor
 ·rintro ⟨a, ha, h1, h2⟩
  simp only [List.mem_map, List.mem_filter] at ha
  obtain ⟨x, ⟨hx, _⟩, rfl⟩ := ha
  exact ⟨x, hx, h1, h2⟩
 ·rintro ⟨a, ha, h1, h2⟩
  refine ⟨(cl a.1, cl a.2), ?_, h1, h2⟩
  simp only [List.mem_map, List.mem_filter]
  exact ⟨a, ⟨ha, by simp only [alive, decide_eq_true_eq]; omega⟩, rfl⟩
theorem joined_range (l : List S25) : ∀ a ∈ joined l, 0 ≤ a.1 ∧ a.1 < a.2 ∧ a.2 ≤ 1099511627776 := by
 intro a ha
 obtain ⟨hf, hi⟩ := joined_fine l
 have hlt := hf.2 a ha
 obtain ⟨x, _, h1, _⟩ := (in_cleaned _ _).1 ((hi a.1).1 ⟨a, ha, Int.le_refl _, hlt⟩)
 obtain ⟨y, _, _, h2⟩ := (in_cleaned _ _).1 ((hi (a.2 - 1)).1 ⟨a, ha, by omega, by omega⟩)
 have := cl_range x.1
 have := cl_range y.2
 omega
theorem cleaned_same (l : List Sp) (h : ∀ a ∈ l, 0 ≤ a.1 ∧ a.1 < a.2 ∧ a.2 ≤ 1099511627776) : cleaned l = l := by
 induction l with
 | nil => rfl
 | cons a l ih =>
  have ha := h a List.mem_cons_self
  have e1 : cl a.1 = a.1 := by unfold cl; (repeat' split) <;> omega
  have e2 : cl a.2 = a.2 := by unfold cl; (repeat' split) <;> omega
  rw [cleaned_cons, if_pos (by simp only [alive, e1, e2, decide_eq_true_eq]; omega), e1, e2, ih (fun b hb => h b (List.mem_cons_of_mem _ hb))]
theorem joined_again (l : List S25) (j : List S25) (hj : j.map spS = joined l) : joined j = joined l := by
 obtain ⟨hf, hi⟩ := joined_fine l
 obtain ⟨hf', hi'⟩ := joined_fine j
 refine fine_unique _ _ hf' hf (fun t => ?_)
 rw [hi', hj, cleaned_same _ (joined_range l)]

theorem put_length (m : List Sp) : ∀ (o : List Sp), (m.foldl put o).length ≤ o.length + m.length := by
 induction m with
 | nil => intro o; simp
 | cons a m ihm =>
  intro o
  rw [List.foldl_cons]
  have h1 := ihm (put o a)
  have hs : ∀ (p : List Sp) (st : List Sp × Bool × Sp), (close (p.foldl seek st)).length ≤ st.1.length + p.length + (if st.2.1 = true then 0 else 1) := by
   intro p
   induction p with
   | nil =>
    intro st
    show (close st).length ≤ _
    unfold close
    by_cases c : st.2.1 = true
    ·rw [if_pos c, if_pos c]; simp
    ·rw [if_neg c, if_neg c]; simp
   | cons b p ihp =>
    intro st
    rw [List.foldl_cons]
    have h2 := ihp (seek st b)
    have h3 : (seek st b).1.length + (if (seek st b).2.1 = true then 0 else 1) ≤ st.1.length + 1 + (if st.2.1 = true then 0 else 1) := by
     unfold seek
     split
     ·simp
     ·split
      ·split
       ·simp
       ·simp
      ·simp
    rw [List.length_cons]
    omega
  have h4 := hs o ([], false, a)
  have h5 : (put o a).length ≤ o.length + 1 := by unfold put; simpa using h4
  rw [List.length_cons]
  omega
theorem joined_length (l : List S25) : (joined l).length ≤ l.length := by
 have h1 := put_length (cleaned (l.map spS)) []
 have h2 := cleaned_length (l.map spS)
 simp at h1 h2
 unfold joined
 omega


/-- what is joined, as spans of the program -/
def joinR (l : List S25) : List S25 := (joined l).map fun a => ⟨a.1, a.2⟩
theorem joinR_sp (l : List S25) : (joinR l).map spS = joined l := by unfold joinR; rw [List.map_map]; exact List.map_id _
theorem spS_inj {a b : List S25} (h : a.map spS = b.map spS) : a = b := by
 have : Function.Injective spS := fun x y e => by cases x; cases y; simp [spS] at e; simp [e]
 exact (List.map_inj_right (fun x y e => this e)).1 h
theorem Join_joinR (l : List S25) (hm : l.length < 4398046511104) (k : Nat) (hk : 2 * l.length + 1 < k) : tick_Join.f k l = some (joinR l) := by
 obtain ⟨r, hr, hq⟩ := Join_tells l hm k hk
 rw [hr]
 exact congrArg some (spS_inj (hq.trans (joinR_sp l).symm))
end Go.Proofs.Ytlddccmgamlccaa.PJoin
