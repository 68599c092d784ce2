import Derived.Test.YtmdjhdnejmegfaaDoorRollA
set_option linter.unusedVariables false
set_option linter.unusedSimpArgs false
namespace Go.Proofs.YtmdjhdnejmegfaaDoor.RollLaw
open Go Go.Proofs Go.RowKit Go.Proofs.BitsPlain Go.Proofs.YtmdjhdnejmegfaaDoor.PRoll Go.Proofs.YtmdjhdnejmegfaaDoorW.PrintWords Go.Proofs.YtmdjhdnejmegfaaDoorW.PrintLast Go.Proofs.YtmdjhdnejmegfaaDoorW.PrintMore

theorem held_round (W nd d s i k1 : Nat) (hW : 1 ≤ W ∧ W ≤ 8) (hn : 1 ≤ nd ∧ nd ≤ 64) (l : List Int) (hi : i < 900) (hd : d < 18446744073709551616) (hs : s < 18446744073709551616)
    (hdn : ∀ j, d.testBit j = true → (first nd).testBit j = true) (hsn : ∀ j, s.testBit j = true → (first nd).testBit j = true)
    (hk : berthinglaw21_RollEnds.l0 k1 (W : Int) (nd : Int) l ((d ||| s : Nat) : Int) ((i + 1 : Nat) : Int) ((i + 1 : Nat) : Int) (W : Int) 0 ((d ||| s : Nat) : Int) 0 = some true) :
    ∃ K, berthinglaw21_RollEnds.l1 (K + 1) (W : Int) (nd : Int) l ((d ||| s : Nat) : Int) (i : Int) (i : Int) 0 (W : Int) 0 (d : Int) (s : Int) = some true := by
  have e1 : dAt d s 64 = d ||| s := by
    apply Nat.eq_of_testBit_eq; intro j
    rw [testBit_dAt, Nat.testBit_or]
    by_cases hj : j < 64
    · simp [hj]
    · have : s.testBit j = false := Nat.testBit_lt_two_pow (Nat.lt_of_lt_of_le hs (Nat.pow_le_pow_right (n := 2) (by omega) (by omega : 64 ≤ j)))
      simp [this]
  have e2 : hAt s 64 = 0 := by
    apply eq_zero_of_bits; intro j
    rw [testBit_hAt]
    by_cases hj : j < 64
    · simp [hj]
    · have : s.testBit j = false := Nat.testBit_lt_two_pow (Nat.lt_of_lt_of_le hs (Nat.pow_le_pow_right (n := 2) (by omega) (by omega : 64 ≤ j)))
      simp [this]
  have e3 : dAt d s 0 = d := by apply Nat.eq_of_testBit_eq; intro j; rw [testBit_dAt]; simp
  have e4 : hAt s 0 = s := by apply Nat.eq_of_testBit_eq; intro j; rw [testBit_hAt]; simp
  have hend : berthinglaw21_RollEnds.l1 (k1 + 2) (W : Int) (nd : Int) l ((d ||| s : Nat) : Int) (i : Int) (i : Int) 64 (W : Int) 0 ((dAt d s 64 : Nat) : Int) ((hAt s 64 : Nat) : Int) = some true := by
    rw [e1, e2]
    unfold berthinglaw21_RollEnds.l1
    rw [if_neg (by omega), if_pos (by simp)]
    have hr := right_f W (d ||| s) 0 nd ⟨hW.1, by omega⟩ hn.1 hn.2 (or_lt d s hd hs) (by omega) (Nat.and_zero _)
      (sub_zero_of (fun j hj => by
        rw [Nat.or_zero, Nat.testBit_or] at hj
        cases hdj : d.testBit j with
        | true => exact hdn j hdj
        | false => rw [hdj] at hj; exact hsn j (by simpa using hj))) (by rw [show pop 0 = 0 from popR_zero 64]; omega) k1
    rw [show ((0 : Nat) : Int) = 0 from rfl] at hr ⊢
    rw [hr]
    rw [Option.bind_some, if_pos rfl]
    rw [wrap_small i (by omega)]
    exact up (f := fun k => berthinglaw21_RollEnds.l0 k (W : Int) (nd : Int) l ((d ||| s : Nat) : Int) ((i + 1 : Nat) : Int) ((i + 1 : Nat) : Int) (W : Int) 0 ((d ||| s : Nat) : Int) 0) (fun k => (berthinglaw21_RollEnds.mono_l k).1 _ _ _ _ _ _ _ _ _ _) hk (by omega)
  have := l1_run W nd d s l ((d ||| s : Nat) : Int) (i : Int) (i : Int) hd hs true (k1 + 2) hend 64 0 (by omega)
  rw [e3, e4] at this
  exact ⟨k1 + 2 + 63, this⟩

theorem pop_more (d s : Nat) (j : Nat) (hj : j < 64) (hsj : s.testBit j = true) (hdj : d.testBit j = false) : pop d + 1 ≤ pop (d ||| s) := by
  rw [← pop_or_bit d j hj hdj]
  refine popR_mono 64 _ _ (fun i hi => ?_)
  rw [Nat.testBit_or, testBit_bitOf j i hj] at hi
  rw [Nat.testBit_or]
  by_cases e : j = i
  · subst e; rw [hsj]; simp
  · simp [e] at hi; rw [hi]; rfl

/-- One turn, of the nodes that are asked for. -/
theorem take_turn (W nd d A i k1 : Nat) (hW : 1 ≤ W ∧ W ≤ 8) (hn : 1 ≤ nd ∧ nd ≤ 64) (l : List Int) (hi : i < 900) (hd : d < 18446744073709551616) (hA : A < 18446744073709551616)
    (hdn : ∀ j, d.testBit j = true → (first nd).testBit j = true) (hAn : ∀ j, A.testBit j = true → (first nd).testBit j = true) (hne : less A d ≠ 0)
    (hk : ∀ s, s < 18446744073709551616 → (∀ j, s.testBit j = true → (first nd).testBit j = true) → (∃ j, j < 64 ∧ s.testBit j = true ∧ d.testBit j = false) →
      ∃ k1, berthinglaw21_RollEnds.l0 k1 (W : Int) (nd : Int) l ((d ||| s : Nat) : Int) ((i + 1 : Nat) : Int) ((i + 1 : Nat) : Int) (W : Int) 0 ((d ||| s : Nat) : Int) 0 = some true) :
    ∃ k, berthinglaw21_RollEnds.j3 k (W : Int) (nd : Int) l (d : Int) (i : Int) (i : Int) (A : Int) (W : Int) 0 (d : Int) 0 = some true := by
  obtain ⟨s, hs, hslt, hsp, hsb, j0, hj64, hj0⟩ := next_spec W d A nd hW.1 hd hA i hne
  obtain ⟨k1, hk1⟩ := hk s hslt (fun j hj => hAn j (hsb j hj).1) ⟨j0, hj64, hj0, (hsb j0 hj0).2⟩
  obtain ⟨K, hr⟩ := held_round W nd d s i k1 hW hn l hi hd hslt hdn (fun j hj => hAn j (hsb j hj).1) hk1
  refine ⟨K + 1 + 1 + 1 + 1, ?_⟩
  unfold berthinglaw21_RollEnds.j3
  rw [hs]; rw [Option.bind_some]
  have hs0 : s ≠ 0 := fun e => by subst e; simp at hj0
  have hsd : s &&& d = 0 := eq_zero_of_bits (fun j => by
    rw [Nat.testBit_and]
    cases hsj : s.testBit j with
    | false => rfl
    | true => rw [(hsb j hsj).2]; rfl)
  have hsA : less s A = 0 := sub_zero_of (fun j hj => (hsb j hj).1)
  have hds : d &&& s = 0 := by rw [Nat.and_comm]; exact hsd
  rw [if_neg (by omega), and_f s d hslt hd]; rw [Option.bind_some]
  rw [hsd, if_pos (by rfl), less_f s A hslt hA]; rw [Option.bind_some]
  rw [hsA]
  unfold berthinglaw21_RollEnds.j4
  rw [if_neg (by simp), or_f d s hd hslt]; rw [Option.bind_some]
  have hh := hold_f (W : Int) 0 d 0 s (by omega) hslt
  rw [show ((0 : Nat) : Int) = 0 from rfl, Nat.zero_or] at hh
  rw [hh, Option.bind_some]; dsimp only
  rw [len_f s hslt]; rw [Option.bind_some]
  rw [if_neg (by omega)]
  have hrt := right_f W d s nd ⟨hW.1, by omega⟩ hn.1 hn.2 hd hslt hds (sub_zero_of (fun j hj => by
        rw [Nat.testBit_or] at hj
        cases hdj : d.testBit j with
        | true => exact hdn j hdj
        | false => rw [hdj] at hj; exact hAn j (hsb j (by simpa using hj)).1)) (by omega) (K + 1)
  rw [hrt]; rw [Option.bind_some]
  unfold berthinglaw21_RollEnds.j5
  rw [if_neg (by simp)]
  exact hr

theorem turn (W nd : Nat) (hW : 1 ≤ W ∧ W ≤ 8) (hn : 1 ≤ nd ∧ nd ≤ 64) (l : List Int) (hl : ∀ x ∈ l, 0 ≤ x ∧ x < 18446744073709551616) :
    ∀ (g i d : Nat), 64 - pop d ≤ g → i ≤ pop d → (∀ j, d.testBit j = true → (first nd).testBit j = true) → d < 18446744073709551616 →
      ∃ k, berthinglaw21_RollEnds.l0 k (W : Int) (nd : Int) l (d : Int) (i : Int) (i : Int) (W : Int) 0 (d : Int) 0 = some true := by
  have hfl := first_lt hn.2
  intro g
  induction g using Nat.strongRecOn with
  | _ g ih =>
  intro i d hg hi hdn hd
  have hp64 : pop d ≤ 64 := popR_le 64 64 d hd
  have hov := over_f (W : Int) 0 d 0 nd hd hn.1 hn.2
  rw [show ((0 : Nat) : Int) = 0 from rfl] at hov
  by_cases hover : less (first nd) d = 0
  · -- all nodes are done
    have hdf : d = first nd := Nat.eq_of_testBit_eq (fun j => by
      cases h1 : d.testBit j with
      | true => rw [hdn j h1]
      | false =>
        cases h2 : (first nd).testBit j with
        | false => rfl
        | true => rw [bits_of_sub hover j h2] at h1; cases h1)
    have hpn : pop d ≤ nd := by
      rw [hdf]; refine popR_le 64 nd _ ?_
      have := Nat.two_pow_pos nd
      unfold first; omega
    refine ⟨10 + 1 + 1, ?_⟩
    unfold berthinglaw21_RollEnds.l0
    rw [if_pos (by omega), hov]; rw [Option.bind_some]
    rw [decide_eq_true hover]
    unfold berthinglaw21_RollEnds.j1
    rw [if_neg (by simp), hov]; rw [Option.bind_some]
    rw [decide_eq_true hover, if_pos rfl, if_pos (by omega), first_f nd hn.1 hn.2]; rw [Option.bind_some]
    rw [if_pos (by rw [← hdf]), one_f]; rfl
  · have hnext : ∀ s, s < 18446744073709551616 → (∀ j, s.testBit j = true → (first nd).testBit j = true) → (∃ j, j < 64 ∧ s.testBit j = true ∧ d.testBit j = false) →
        ∃ k1, berthinglaw21_RollEnds.l0 k1 (W : Int) (nd : Int) l ((d ||| s : Nat) : Int) ((i + 1 : Nat) : Int) ((i + 1 : Nat) : Int) (W : Int) 0 ((d ||| s : Nat) : Int) 0 = some true := by
      rintro s hs hsn ⟨j, hj64, hsj, hdj⟩
      have hm := pop_more d s j hj64 hsj hdj
      have hm64 : pop (d ||| s) ≤ 64 := popR_le 64 64 _ (or_lt d s hd hs)
      refine ih (64 - pop (d ||| s)) (by omega) (i + 1) (d ||| s) (Nat.le_refl _) (by omega) (fun q hq => ?_) (or_lt d s hd hs)
      rw [Nat.testBit_or] at hq
      cases hdq : d.testBit q with
      | true => exact hdn q hdq
      | false => rw [hdq] at hq; exact hsn q (by simpa using hq)
    -- what is asked of the next turn's nodes: some of the idle, or all
    have hlast : ∃ k, berthinglaw21_RollEnds.j1 k (W : Int) (nd : Int) l (d : Int) (i : Int) (i : Int) true (W : Int) 0 (d : Int) 0 = some true := by
      obtain ⟨ka, ha⟩ := take_turn W nd d (first nd) i 0 hW hn l (by omega) hd hfl hdn (fun j hj => hj) hover hnext
      by_cases hil : (i : Int) < (l.length : Int)
      · have hm : rd l (i : Int) ∈ l := by
          have : i < l.length := by omega
          unfold rd
          simp only [Int.toNat_natCast]
          rw [List.getD_eq_getElem?_getD, List.getElem?_eq_getElem this]
          exact List.getElem_mem this
        obtain ⟨x, hx⟩ := Int.eq_ofNat_of_zero_le (hl _ hm).1
        have hx2 := (hl _ hm).2
        rw [hx] at hx2
        have hxl : x < 18446744073709551616 := by omega
        have hxa : x &&& first nd < 18446744073709551616 := Nat.and_lt_two_pow (n := 64) _ hfl
        by_cases hz : less (x &&& first nd) d = 0
        · refine ⟨ka + 1 + 1, ?_⟩
          unfold berthinglaw21_RollEnds.j1
          rw [if_pos rfl, first_f nd hn.1 hn.2]; rw [Option.bind_some]
          rw [if_pos hil, if_pos (by omega), hx, and_f x _ hxl hfl]; rw [Option.bind_some]
          rw [less_f _ d hxa hd]; rw [Option.bind_some]
          rw [hz]
          unfold berthinglaw21_RollEnds.j2
          rw [if_neg (by simp)]
          exact ha
        · obtain ⟨kb, hb⟩ := take_turn W nd d (x &&& first nd) i 0 hW hn l (by omega) hd hxa hdn (fun j hj => by rw [Nat.testBit_and] at hj; simp at hj; exact hj.2) hz hnext
          refine ⟨kb + 1 + 1, ?_⟩
          unfold berthinglaw21_RollEnds.j1
          rw [if_pos rfl, first_f nd hn.1 hn.2]; rw [Option.bind_some]
          rw [if_pos hil, if_pos (by omega), hx, and_f x _ hxl hfl]; rw [Option.bind_some]
          rw [less_f _ d hxa hd]; rw [Option.bind_some]
          unfold berthinglaw21_RollEnds.j2
          rw [if_pos (by simp only [bne_iff_ne, ne_eq]; omega), if_pos (by omega), if_pos hil, hx, and_f x _ hxl hfl]; rw [Option.bind_some]
          exact hb
      · refine ⟨ka + 1 + 1, ?_⟩
        unfold berthinglaw21_RollEnds.j1
        rw [if_pos rfl, first_f nd hn.1 hn.2]; rw [Option.bind_some]
        rw [if_neg hil]
        unfold berthinglaw21_RollEnds.j2
        rw [if_neg (by simp)]
        exact ha
    obtain ⟨k, hk⟩ := hlast
    refine ⟨k + 1, ?_⟩
    unfold berthinglaw21_RollEnds.l0
    rw [if_pos (by omega), hov]; rw [Option.bind_some]
    rw [decide_eq_false hover]
    exact hk

theorem low_and (a : Int) (m : Nat) (hm : m < 1024) : ∃ r : Nat, r ≤ m ∧ Go.bits .and .i64 a (m : Int) = (r : Int) := by
  have h2 : (BitVec.ofInt 64 (m : Int)).toNat = m := by rw [BitVec.ofInt_natCast, BitVec.toNat_ofNat]; exact Nat.mod_eq_of_lt (by omega)
  refine ⟨(BitVec.ofInt 64 a).toNat &&& m, Nat.and_le_right, ?_⟩
  show IntKind.i64.wrap ((BitVec.ofInt 64 a &&& BitVec.ofInt 64 (m : Int)).toNat : Int) = _
  rw [BitVec.toNat_and, h2, IntKind.wrap_i64]
  have : (BitVec.ofInt 64 a).toNat &&& m ≤ m := Nat.and_le_right
  omega

theorem wid (a : Int) : ∃ W : Nat, (1 ≤ W ∧ W ≤ 8) ∧ wrap64 (1 + (Go.bits .and .i64 a 7)) = (W : Int) := by
  obtain ⟨r, hr, e⟩ := low_and a 7 (by omega)
  refine ⟨r + 1, by omega, ?_⟩
  rw [show (7 : Int) = ((7 : Nat) : Int) from rfl, e]
  unfold wrap64; omega

theorem nod (a : Int) : ∃ n : Nat, (1 ≤ n ∧ n ≤ 64) ∧ wrap64 (1 + (Go.bits .and .i64 a 63)) = (n : Int) := by
  obtain ⟨r, hr, e⟩ := low_and a 63 (by omega)
  refine ⟨r + 1, by omega, ?_⟩
  rw [show (63 : Int) = ((63 : Nat) : Int) from rfl, e]
  unfold wrap64; omega

theorem RollEnds_law : berthinglaw21_RollEnds.Pure := by
  intro a0 a1 l2 w0 w1 _ _ hl
  obtain ⟨W, hW, e0⟩ := wid a0
  obtain ⟨n, hn, e1⟩ := nod a1
  have hl' : ∀ x ∈ l2, 0 ≤ x ∧ x < 18446744073709551616 := fun x hx => by
    have := hl x hx
    simp [Lit.wf] at this
    have m0 : IntKind.u64.min = 0 := rfl
    have m1 : IntKind.u64.max = 18446744073709551615 := rfl
    omega
  unfold berthinglaw21_RollEnds.f
  rw [e0, e1]
  exact turn W n hW hn l2 hl' 64 0 0 (by omega) (by omega) (fun j hj => by simp at hj) (by omega)
end Go.Proofs.YtmdjhdnejmegfaaDoor.RollLaw
