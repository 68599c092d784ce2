/- A part of the proofs over trace (TrCells): contracts of the program's functions and plain laws. Conditions: those that each theorem states. -/
import Derived.Test.YtdpomgfibjlehaaDoorTrTamed
import Derived.Test.YtdpomgfibjlehaaDoorBits
set_option linter.unusedVariables false
set_option linter.unusedSimpArgs false
/- Rows of events, their nodes as numbers; which cells of a drawing hold a digit. -/
namespace Go.Proofs.YtdpomgfibjlehaaDoor.Tr
open Go Go.Proofs Go.RowKit Go.Lib Go.Proofs.CodBytes Go.Proofs.BitsPlain Go.Proofs.YtdpomgfibjlehaaDoorW.PrintWords Go.Proofs.YtdpomgfibjlehaaDoorW.PrintLast Go.Proofs.YtdpomgfibjlehaaDoorW.PrintMore Go.Proofs.YtdpomgfibjlehaaDoor.PTr Go.Proofs.YtdpomgfibjlehaaDoor.CodSame Go.Proofs.YtdpomgfibjlehaaDoor.Cur

theorem has_bit (u n : Nat) (hu : u < 18446744073709551616) (hn : n < 64) : hasB (u : Int) (n : Int) = u.testBit n := by
  have hp : (2 : Nat) ^ n < 18446744073709551616 := Nat.pow_lt_pow_of_lt (a := 2) (by omega) hn
  unfold hasB bits_Set_Has.f bits_bit.f
  rw [if_neg (by omega), if_neg (by omega), if_pos (by omega), Option.bind_some]
  have e : shl .u64 1 (n : Int) = ((2 ^ n : Nat) : Int) := by
    show IntKind.u64.wrap (1 * 2 ^ min (n : Int).toNat IntKind.u64.bits) = _
    rw [Int.toNat_natCast, Nat.min_eq_left (by simp [IntKind.bits]; omega), IntKind.wrap_u64]
    have : (1 * 2 ^ n : Int) = ((2 ^ n : Nat) : Int) := by simp
    rw [this]
    generalize 2 ^ n = p at hp
    omega
  rw [e, bits_and_u64_nat u (2 ^ n) hu hp, Option.getD_some]
  cases hb : u.testBit n with
  | false =>
    have h0 : u &&& 2 ^ n = 0 := by
      apply Nat.eq_of_testBit_eq
      intro i
      rw [Nat.testBit_and, Nat.testBit_two_pow, Nat.zero_testBit]
      by_cases hi : n = i
      · subst hi; rw [hb]; rfl
      · rw [decide_eq_false hi, Bool.and_false]
    rw [h0]; rfl
  | true =>
    have h1 : (u &&& 2 ^ n).testBit n = true := by rw [Nat.testBit_and, hb, Nat.testBit_two_pow_self]; rfl
    have h2 : u &&& 2 ^ n ≠ 0 := fun h => by rw [h, Nat.zero_testBit] at h1; cases h1
    exact bne_iff_ne.2 (by omega)

theorem rows_mem {l : List S46} {r : TRow} (h : r ∈ rowsL l) : ∃ x ∈ l, r.job = x.f0 ∧ r.part = x.f1 ∧ r.nodes = x.f3 := by
  unfold rowsL rowsTo at h
  obtain ⟨i, hi, hr⟩ := List.mem_filterMap.1 h
  unfold rowI at hr
  cases hx : l[i]? with
  | none => rw [hx] at hr; cases hr
  | some x =>
    rw [hx] at hr
    dsimp only at hr
    have hm : x ∈ l := List.mem_of_getElem? hx
    split at hr
    · cases hr
    · obtain rfl := Option.some.inj hr
      refine ⟨x, hm, ?_⟩
      unfold rowAt
      split <;> exact ⟨rfl, rfl, rfl⟩
theorem mem_backL {xs : List TRow} {p : Int × TRow} (h : p ∈ backL xs) : p.2 ∈ xs := by
  unfold backL backTo at h
  obtain ⟨j, hj, rfl⟩ := List.mem_map.1 h
  have hj := List.mem_range.1 hj
  dsimp only
  rw [List.getD_eq_getElem?_getD, List.getElem?_eq_getElem (show xs.length - 1 - j < xs.length by omega)]
  exact List.getElem_mem _
theorem backL_mem {xs : List TRow} {r : TRow} (h : r ∈ xs) : ∃ i : Int, (i, r) ∈ backL xs := by
  obtain ⟨i, hi, rfl⟩ := List.mem_iff_getElem.1 h
  refine ⟨((i : Nat) : Int), ?_⟩
  unfold backL backTo
  refine List.mem_map.2 ⟨xs.length - 1 - i, List.mem_range.2 (by omega), ?_⟩
  have e : xs.length - 1 - (xs.length - 1 - i) = i := by omega
  rw [e, List.getD_eq_getElem?_getD, List.getElem?_eq_getElem hi]; rfl
theorem find_back (xs : List TRow) (n at_ : Int) : ((backL xs).find? (hitB n at_)).isSome = true ↔ ∃ r ∈ xs, holdsB r at_ = true ∧ hasB r.nodes n = true := by
  rw [List.find?_isSome]
  constructor
  · rintro ⟨p, hp, h⟩
    unfold hitB at h
    rw [Bool.and_eq_true] at h
    exact ⟨p.2, mem_backL hp, h.1, h.2⟩
  · rintro ⟨r, hr, h1, h2⟩
    obtain ⟨i, hi⟩ := backL_mem hr
    exact ⟨_, hi, by unfold hitB; rw [h1, h2]; rfl⟩

/-- the nodes in use, as a number -/
def useN (part at_ : Int) : List TRow → Nat → Nat
  | [], u => u
  | r :: t, u => useN part at_ t (if r.part = part ∧ holdsB r at_ = true then u ||| r.nodes.toNat else u)
theorem useN_eq (part at_ : Int) : ∀ (rs : List TRow) (u : Nat), u < 18446744073709551616 → (∀ r ∈ rs, 0 ≤ r.nodes ∧ r.nodes < 18446744073709551616) → rs.foldl (busyStep part at_) (u : Int) = (useN part at_ rs u : Int)
  | [], u, hu, h => rfl
  | r :: t, u, hu, h => by
    have hr := h r (List.mem_cons_self ..)
    have ht := fun x hx => h x (List.mem_cons_of_mem _ hx)
    rw [List.foldl_cons, useN]
    unfold busyStep
    by_cases c : r.part = part ∧ holdsB r at_ = true
    · rw [if_pos c, if_pos c]
      have e : r.nodes = ((r.nodes.toNat : Nat) : Int) := by omega
      have eo : Go.bits .or .u64 (u : Int) r.nodes = ((u ||| r.nodes.toNat : Nat) : Int) := by
        rw [e, bits_or_u64_nat u r.nodes.toNat hu (by omega), Int.toNat_natCast]
      rw [eo]
      exact useN_eq part at_ t _ (or_lt _ _ hu (by omega)) ht
    · rw [if_neg c, if_neg c]
      exact useN_eq part at_ t u hu ht
theorem useN_lt (m : Nat) (part at_ : Int) : ∀ (rs : List TRow) (u : Nat), u < 2 ^ m → (∀ r ∈ rs, r.nodes.toNat < 2 ^ m) → useN part at_ rs u < 2 ^ m
  | [], u, hu, h => hu
  | r :: t, u, hu, h => by
    rw [useN]
    refine useN_lt m part at_ t _ ?_ (fun x hx => h x (List.mem_cons_of_mem _ hx))
    split
    · exact Nat.or_lt_two_pow hu (h r (List.mem_cons_self ..))
    · exact hu
theorem useN_bit (part at_ : Int) (n : Nat) : ∀ (rs : List TRow) (u : Nat), (useN part at_ rs u).testBit n = true ↔ u.testBit n = true ∨ ∃ r ∈ rs, r.part = part ∧ holdsB r at_ = true ∧ r.nodes.toNat.testBit n = true
  | [], u => by simp [useN]
  | r :: t, u => by
    rw [useN, useN_bit part at_ n t]
    by_cases c : r.part = part ∧ holdsB r at_ = true
    · rw [if_pos c, Nat.testBit_or, Bool.or_eq_true]
      simp only [List.mem_cons, exists_eq_or_imp]
      constructor
      · rintro ((h | h) | h)
        · exact Or.inl h
        · exact Or.inr (Or.inl ⟨c.1, c.2, h⟩)
        · exact Or.inr (Or.inr h)
      · rintro (h | ⟨_, _, h⟩ | h)
        · exact Or.inl (Or.inl h)
        · exact Or.inl (Or.inr h)
        · exact Or.inr h
    · rw [if_neg c]
      simp only [List.mem_cons, exists_eq_or_imp]
      constructor
      · rintro (h | h)
        · exact Or.inl h
        · exact Or.inr (Or.inr h)
      · rintro (h | ⟨h1, h2, _⟩ | h)
        · exact Or.inl h
        · exact absurd ⟨h1, h2⟩ c
        · exact Or.inr h
theorem busyU_eq (part at_ : Int) (rs : List TRow) (h : ∀ r ∈ rs, 0 ≤ r.nodes ∧ r.nodes < 18446744073709551616) : busyU part at_ rs = (useN part at_ rs 0 : Int) := useN_eq part at_ rs 0 (by omega) h
/-- a node is drawn where it is in use -/
theorem drawn_used (part at_ : Int) (rs : List TRow) (h : ∀ r ∈ rs, 0 ≤ r.nodes ∧ r.nodes < 18446744073709551616) (n : Nat) (hn : n < 64) :
    ((backL (ownP part rs)).find? (hitB (n : Int) at_)).isSome = (useN part at_ rs 0).testBit n := by
  rw [Bool.eq_iff_iff, find_back, useN_bit]
  have h0 : ¬((0 : Nat).testBit n = true) := by simp
  have hb : ∀ r ∈ rs, hasB r.nodes (n : Int) = r.nodes.toNat.testBit n := by
    intro r hr
    have := h r hr
    have e : r.nodes = ((r.nodes.toNat : Nat) : Int) := by omega
    have h2 := has_bit r.nodes.toNat n (by omega) hn
    rw [← e] at h2
    exact h2
  constructor
  · rintro ⟨r, hr, h1, h2⟩
    unfold ownP at hr
    obtain ⟨hr, hp⟩ := List.mem_filter.1 hr
    exact Or.inr ⟨r, hr, eq_of_beq hp, h1, by rw [← hb r hr]; exact h2⟩
  · rintro (hz | ⟨r, hr, hp, h1, h2⟩)
    · exact absurd hz h0
    · exact ⟨r, List.mem_filter.2 ⟨hr, beq_iff_eq.2 hp⟩, h1, by rw [hb r hr]; exact h2⟩
theorem len_fact : ∀ b : Fin 256, bits_Set_Len.f (b.val : Int) = some ((((List.range 8).filter fun j => b.val.testBit j).length : Nat) : Int) := by decide +kernel
theorem drawTo_get (xs : List TRow) (fr : Int) (m : Nat) : ∀ (n i k : Nat), i < n → k < m → (drawTo xs fr m n)[i * (m + 1) + k]? = some (cellC xs (i : Int) (timeI fr (k : Int)))
  | 0, i, k, hi, hk => absurd hi (by omega)
  | n + 1, i, k, hi, hk => by
    rw [drawTo_succ]
    by_cases h : i < n
    · have hlt : i * (m + 1) + k < (drawTo xs fr m n).length := by
        rw [drawTo_length]
        have h1 : (i + 1) * (m + 1) ≤ n * (m + 1) := Nat.mul_le_mul_right _ h
        have h2 : (i + 1) * (m + 1) = i * (m + 1) + (m + 1) := by rw [Nat.add_mul, Nat.one_mul]
        omega
      rw [List.getElem?_append_left hlt]
      exact drawTo_get xs fr m n i k h hk
    · obtain rfl : i = n := by omega
      rw [List.getElem?_append_right (by rw [drawTo_length]; omega), drawTo_length, Nat.add_sub_cancel_left, List.getElem?_append_left (by rw [drawRow_length]; exact hk)]
      unfold drawRow
      rw [List.getElem?_map, List.getElem?_range hk]; rfl
theorem cell_byte (xs : List TRow) (h : ∀ r ∈ xs, 0 ≤ r.job) (n at_ : Int) : 0 ≤ cellC xs n at_ ∧ cellC xs n at_ < 256 := by
  unfold cellC
  split
  · exact ⟨by decide, by decide⟩
  · cases hf : (backL xs).find? (hitB n at_) with
    | none => exact ⟨by decide, by decide⟩
    | some p =>
      have hp := h p.2 (mem_backL (List.mem_of_find?_eq_some hf))
      simp only [chrO]
      rw [Int.tmod_eq_emod_of_nonneg hp]; omega
theorem cell_digit (xs : List TRow) (h : ∀ r ∈ xs, 0 ≤ r.job) (n at_ : Int) (ha : 0 ≤ at_ ∧ at_ < 1099511627776) :
    ((((backL xs).find? (hitB n at_)).isSome = true → 48 ≤ cellC xs n at_ ∧ cellC xs n at_ ≤ 57)) ∧ (((backL xs).find? (hitB n at_)).isSome = false → cellC xs n at_ = 46) := by
  unfold cellC
  rw [if_neg (by omega)]
  cases hf : (backL xs).find? (hitB n at_) with
  | none => exact ⟨fun hh => (by cases hh), fun _ => rfl⟩
  | some p =>
    have hp := h p.2 (mem_backL (List.mem_of_find?_eq_some hf))
    refine ⟨fun _ => ?_, fun hh => (by cases hh)⟩
    simp only [chrO]
    rw [Int.tmod_eq_emod_of_nonneg hp]; omega
theorem drawTo_byte (xs : List TRow) (h : ∀ r ∈ xs, 0 ≤ r.job) (fr : Int) (m n : Nat) : ∀ x ∈ drawTo xs fr m n, 0 ≤ x ∧ x < 256 := by
  intro x hx
  unfold drawTo at hx
  obtain ⟨i, hi, hx⟩ := List.mem_flatMap.1 hx
  rcases List.mem_append.1 hx with hx | hx
  · unfold drawRow at hx
    obtain ⟨j, hj, rfl⟩ := List.mem_map.1 hx
    exact cell_byte xs h _ _
  · simp only [List.mem_singleton] at hx; subst hx; exact ⟨by decide, by decide⟩
end Go.Proofs.YtdpomgfibjlehaaDoor.Tr
