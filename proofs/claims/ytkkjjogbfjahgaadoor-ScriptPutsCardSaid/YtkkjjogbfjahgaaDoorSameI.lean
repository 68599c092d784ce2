/- A part of the proofs over script (SameI): the reference's Int reads what the program's does. Conditions: bytes, fewer than 2^47. -/
import Derived.Test.YtkkjjogbfjahgaaDoorSame
import Derived.Test.YtkkjjogbfjahgaaDoorPScx34
set_option linter.unusedVariables false
set_option linter.unusedSimpArgs false
namespace Go.Proofs.YtkkjjogbfjahgaaDoor.CodSame
open Go Go.Proofs Go.RowKit Go.Proofs.CodBytes Go.Proofs.YtkkjjogbfjahgaaDoorW.PrintWords Go.Proofs.YtkkjjogbfjahgaaDoorW.PrintLast Go.Proofs.YtkkjjogbfjahgaaDoorW.PrintMore Go.Proofs.YtkkjjogbfjahgaaDoor.PSc Go.Proofs.YtkkjjogbfjahgaaDoor.Cur

theorem refUnf (u : Int) (h0 : 0 ≤ u) (h1 : u < 18446744073709551616) : berthingref02_Unfold.f u = some (unfI u) := by
  unfold berthingref02_Unfold.f unfI
  have t1 : Int.tdiv u 2 = u / 2 := Int.tdiv_eq_ediv_of_nonneg h0
  have t2 : Int.tmod u 2 = u % 2 := Int.tmod_eq_emod_of_nonneg h0
  rw [t1, t2]
  by_cases h : u % 2 = 1
  · rw [if_pos h, if_pos h]; congr 1; rw [IntKind.wrap_u64]; unfold wrap64; omega
  · rw [if_neg h, if_neg h]; congr 1; rw [IntKind.wrap_u64]; unfold wrap64; omega

theorem j2_ok (k i V : Nat) (bs : List Int) (hlt : i < bs.length) (hi : i ≤ 9) (q4 : V < 18446744073709551616) :
    berthingref02_Cursor_Int.j2 (k + 1) (V : Int) (i : Int) false (strOfNums bs) 0 = some (strOfNums (bs.drop (i + 1)), 0, unfI (V : Int)) := by
  rw [berthingref02_Cursor_Int.j2, if_neg (by simp), w1 i hi, if_pos (by omega), if_pos (by rw [size_str]; omega), refUnf _ (by omega) (by omega)]
  simp only [Option.bind_some]
  rw [Int.toNat_natCast, str_drop]

set_option maxHeartbeats 1000000 in
theorem grp_same (bs : List Int) (hb : ∀ x ∈ bs, 0 ≤ x ∧ x < 256) (hl : bs.length < 140737488355328) (n : Nat) : ∀ (k i u : Nat), i + n = 9 → i ≤ bs.length → u < 2 ^ (7 * i) → 3 * n + 3 ≤ k →
    berthingref02_Cursor_Int.l0 k (u : Int) (i : Int) (strOfNums bs) 0 = some (strOfNums (grpGo (bs.drop i) i (u : Int)).2.2, (grpGo (bs.drop i) i (u : Int)).1, unfI (grpGo (bs.drop i) i (u : Int)).2.1) ∧
      0 ≤ (grpGo (bs.drop i) i (u : Int)).2.1 ∧ (grpGo (bs.drop i) i (u : Int)).2.1 < 18446744073709551616 := by
  induction n using Nat.strongRecOn with
  | _ n ih =>
    intro k i u hin hib hu hk
    obtain ⟨k, rfl⟩ : ∃ m, k = m + 3 := ⟨k - 3, by omega⟩
    rw [berthingref02_Cursor_Int.l0, if_pos (by omega), size_str]
    by_cases hlt : i < bs.length
    · have hx := hb _ (List.getElem_mem hlt)
      have hbt := bt_str bs hb i hlt
      have hdrop : bs.drop i = bs[i] :: bs.drop (i + 1) := List.drop_eq_getElem_cons hlt
      rw [if_neg (by omega), if_pos (by omega), if_pos (by omega), hbt, hdrop]
      obtain ⟨x, hxe⟩ : ∃ x : Nat, bs[i] = (x : Int) := ⟨bs[i].toNat, by omega⟩
      rw [hxe] at hx ⊢
      rw [wx x (by omega)]
      clear hbt
      have hj : ∀ (c : Bool), c = decide (i = 9 ∧ 1 < x) →
          (berthingref02_Cursor_Int.j1 (k + 2) (u : Int) (i : Int) (x : Int) c (strOfNums bs) 0 = some (strOfNums (grpGo ((x : Int) :: bs.drop (i + 1)) i (u : Int)).2.2, (grpGo ((x : Int) :: bs.drop (i + 1)) i (u : Int)).1, unfI (grpGo ((x : Int) :: bs.drop (i + 1)) i (u : Int)).2.1) ∧
            0 ≤ (grpGo ((x : Int) :: bs.drop (i + 1)) i (u : Int)).2.1 ∧ (grpGo ((x : Int) :: bs.drop (i + 1)) i (u : Int)).2.1 < 18446744073709551616) := by
        intro c hc
        rw [berthingref02_Cursor_Int.j1, grpGo]
        by_cases h9 : i = 9 ∧ 1 < x
        · rw [hc, decide_eq_true h9, if_pos rfl, if_pos (.inl (by omega))]
          exact ⟨rfl, by decide, by decide⟩
        · rw [hc, decide_eq_false h9, if_neg (by simp)]
          obtain ⟨V, Q, q3, q4⟩ := step7' u x i (by omega) hu (by omega) (fun h => by omega)
          rw [if_pos (by rw [w7 i (by omega)]; exact Int.natCast_nonneg _)]
          simp only [Q.out.2, Q.out.1]
          clear Q
          by_cases hl8 : x < 128
          · rw [if_pos (by omega)]
            have hok := j2_ok k i V bs hlt (by omega) q4
            by_cases hz : x = 0
            · rw [if_pos (by omega)]
              by_cases hi0 : 0 < i
              · rw [if_pos (.inr (by omega)), decide_eq_true (by omega), berthingref02_Cursor_Int.j2, if_pos rfl]
                exact ⟨rfl, by decide, by decide⟩
              · rw [if_neg (by omega), if_pos (by omega), decide_eq_false (by omega), hok]
                exact ⟨rfl, by show (0:Int) ≤ (V : Int); omega, by show (V : Int) < (18446744073709551616 : Int); omega⟩
            · rw [if_neg (by omega), if_neg (by omega), if_pos (by omega), hok]
              exact ⟨rfl, by show (0:Int) ≤ (V : Int); omega, by show (V : Int) < (18446744073709551616 : Int); omega⟩
          · rw [if_neg (by omega), if_neg (by omega), if_neg (by omega)]
            rw [w1 i (by omega)]
            have hi9 : i ≠ 9 := by omega
            obtain ⟨n, rfl⟩ : ∃ m, n = m + 1 := ⟨n - 1, by omega⟩
            exact ih n (by omega) (k + 1) (i + 1) _ (by omega) (by omega) q3 (by omega)
      by_cases h9 : i = 9
      · rw [if_pos (by omega)]
        exact hj _ (by rw [decide_eq_decide]; omega)
      · rw [if_neg (by omega)]
        exact hj _ (by simp [h9])
    · have hie : i = bs.length := by omega
      rw [if_pos (by omega), hie]
      simp only [List.drop_length, grpGo]
      exact ⟨rfl, by decide, by decide⟩

/-- One number is read alike. -/
theorem int_same (k : Nat) (hk : 30 ≤ k) (bs : List Int) (hb : ∀ x ∈ bs, 0 ≤ x ∧ x < 256) (hl : bs.length < 140737488355328) (e : Int) :
    berthingref02_Cursor_Int.f k (strOfNums bs) e = some (strOfNums (Cur.intOf bs e).2.1, (Cur.intOf bs e).2.2, (Cur.intOf bs e).1) ∧ I64 (Cur.intOf bs e).1 := by
  unfold berthingref02_Cursor_Int.f Cur.intOf
  by_cases he : e = 0
  · subst he
    rw [if_pos rfl, if_pos rfl]
    obtain ⟨g1, g2, g3⟩ := grp_same bs hb hl 9 k 0 0 (by omega) (by omega) (by omega) (by omega)
    simp only [List.drop_zero] at g1 g2 g3
    have hz : ((0 : Nat) : Int) = 0 := rfl
    rw [hz] at g1 g2 g3
    rw [g1, unf_unfI _ g2 g3]
    exact ⟨rfl, unf_range _ g2 g3⟩
  · rw [if_neg he, if_neg he, unf_unfI 0 (by decide) (by decide), unf0]
    exact ⟨rfl, by show (-9223372036854775808 : Int) ≤ 0; decide, by show (0 : Int) < 9223372036854775808; decide⟩
end Go.Proofs.YtkkjjogbfjahgaaDoor.CodSame
