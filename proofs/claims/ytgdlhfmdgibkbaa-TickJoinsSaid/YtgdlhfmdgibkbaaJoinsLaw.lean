/-
  The plain law of the statement TickJoins of layer tick: whatever spans. Conditions: none.
-/
import Derived.Test.YtgdlhfmdgibkbaaJoined
import Derived.Test.YtgdlhfmdgibkbaaPTickx6
import Derived.Test.YtgdlhfmdgibkbaaPTickx7
namespace Go.Proofs.Ytgdlhfmdgibkbaa.PTick
open Go.RowKit Go.Proofs.YtgdlhfmdgibkbaaW.PrintWords Go.Proofs.YtgdlhfmdgibkbaaW.PrintLast Go.Proofs.YtgdlhfmdgibkbaaW.PrintMore
open Go.Proofs.SpanLaw

theorem TickJoins_F_l1 (r : List S29) (r' : List S25) (h : r.map sp29 = r'.map sp25) (hm : r.length < 4398046511104) (d : Nat) : ∀ (k i : Nat), r.length - i = d → i ≤ r.length → d + 9 ≤ k → berthinglaw01_TickJoins_F.l1 k r r' (i : Int) = some true := by
  have hl : r.length = r'.length := by have := congrArg List.length h; simpa using this
  induction d with
  | zero =>
    intro k i hd hi hk
    obtain ⟨k, rfl⟩ : ∃ m, k = m + 1 := ⟨k - 1, by omega⟩
    simp only [berthinglaw01_TickJoins_F.l1]
    rw [if_neg (by omega), one_tells k (by omega)]
    rfl
  | succ d ih =>
    intro k i hd hi hk
    obtain ⟨k, rfl⟩ : ∃ m, k = m + 1 := ⟨k - 1, by omega⟩
    have hir : i < r.length := by omega
    obtain ⟨e0, e1⟩ := sp_get h i hir (by omega)
    simp only [berthinglaw01_TickJoins_F.l1]
    rw [if_pos (by omega), if_pos (by omega), rd29_get _ _ hir, Own_tells]
    simp only [Option.bind_some]
    rw [if_pos (by omega), rd25_get _ _ (by omega), e0, e1, if_neg (by simp), wrap_small (by omega) (by omega)]
    have := ih k (i + 1) (by omega) (by omega) (by omega)
    rw [show ((i + 1 : Nat) : Int) = (i : Int) + 1 from by omega] at this
    exact this
theorem TickJoins_F_l0 (l : List S29) (hm : l.length ≤ 60) (d : Nat) : ∀ (k i : Nat), l.length - i = d → i ≤ l.length → d + 5000 ≤ k → berthinglaw01_TickJoins_F.l0 k l ((l.take i).map own) (i : Int) = some true := by
  induction d with
  | zero =>
    intro k i hd hi hk
    obtain ⟨k, rfl⟩ : ∃ m, k = m + 1 := ⟨k - 1, by omega⟩
    simp only [berthinglaw01_TickJoins_F.l0]
    rw [if_neg (by omega), List.take_of_length_le (by omega)]
    obtain ⟨r, hr, hq⟩ := Join_tells l (by omega) k (by omega)
    have hlm : (l.map own).length = l.length := List.length_map ..
    have hmul : (l.map own).length * ((l.map own).length + 3) ≤ 60 * 63 := by rw [hlm]; exact Nat.mul_le_mul hm (by omega)
    obtain ⟨r', hr', hq'⟩ := refJoin_tells (l.map own) (by omega) k (by omega)
    rw [map_own] at hq'
    have hrr : r.map sp29 = r'.map sp25 := by rw [hq, hq']
    have hll : r.length = r'.length := by have := congrArg List.length hrr; simpa using this
    rw [hr, hr']
    simp only [Option.bind_some]
    have hrl : r.length < 4398046511104 ∧ r.length + 9 ≤ k := by
      have h1 := put_length (cleaned (l.map sp29)) []
      have h2 := cleaned_length (l.map sp29)
      have h3 : r.length = ((cleaned (l.map sp29)).foldl put []).length := by rw [← hq]; simp
      simp at h1 h2
      omega
    rw [if_pos (by omega)]
    exact TickJoins_F_l1 r r' hrr hrl.1 r.length k 0 (by omega) (by omega) (by omega)
  | succ d ih =>
    intro k i hd hi hk
    obtain ⟨k, rfl⟩ : ∃ m, k = m + 1 := ⟨k - 1, by omega⟩
    have hil : i < l.length := by omega
    simp only [berthinglaw01_TickJoins_F.l0]
    rw [if_pos (by omega), if_pos (by omega), rd29_get _ _ hil, Own_tells]
    simp only [Option.bind_some]
    rw [if_pos (by simp; omega), wrap_small (by omega) (by omega)]
    have := ih k (i + 1) (by omega) (by omega) (by omega)
    rw [show ((i + 1 : Nat) : Int) = (i : Int) + 1 from by omega, List.take_succ_eq_append_getElem hil, List.map_append] at this
    exact this
theorem TickJoins_T_l1 (r : List S29) (r' : List S25) (h : r.map sp29 = r'.map sp25) (hm : r.length < 4398046511104) (d : Nat) : ∀ (k i : Nat), r.length - i = d → i ≤ r.length → d + 9 ≤ k → berthinglaw01_TickJoins_T.l1 k r r' (i : Int) = some true := by
  have hl : r.length = r'.length := by have := congrArg List.length h; simpa using this
  induction d with
  | zero =>
    intro k i hd hi hk
    obtain ⟨k, rfl⟩ : ∃ m, k = m + 1 := ⟨k - 1, by omega⟩
    simp only [berthinglaw01_TickJoins_T.l1]
    rw [if_neg (by omega), one_tells k (by omega)]
    rfl
  | succ d ih =>
    intro k i hd hi hk
    obtain ⟨k, rfl⟩ : ∃ m, k = m + 1 := ⟨k - 1, by omega⟩
    have hir : i < r.length := by omega
    obtain ⟨e0, e1⟩ := sp_get h i hir (by omega)
    simp only [berthinglaw01_TickJoins_T.l1]
    rw [if_pos (by omega), if_pos (by omega), rd29_get _ _ hir, Own_tells]
    simp only [Option.bind_some]
    rw [if_pos (by omega), rd25_get _ _ (by omega), e0, e1, if_neg (by simp), wrap_small (by omega) (by omega)]
    have := ih k (i + 1) (by omega) (by omega) (by omega)
    rw [show ((i + 1 : Nat) : Int) = (i : Int) + 1 from by omega] at this
    exact this
theorem TickJoins_T_l0 (l : List S29) (hm : l.length ≤ 60) (d : Nat) : ∀ (k i : Nat), l.length - i = d → i ≤ l.length → d + 5000 ≤ k → berthinglaw01_TickJoins_T.l0 k l ((l.take i).map own) (i : Int) = some true := by
  induction d with
  | zero =>
    intro k i hd hi hk
    obtain ⟨k, rfl⟩ : ∃ m, k = m + 1 := ⟨k - 1, by omega⟩
    simp only [berthinglaw01_TickJoins_T.l0]
    rw [if_neg (by omega), List.take_of_length_le (by omega)]
    obtain ⟨r, hr, hq⟩ := Join_tells l (by omega) k (by omega)
    have hlm : (l.map own).length = l.length := List.length_map ..
    have hmul : (l.map own).length * ((l.map own).length + 3) ≤ 60 * 63 := by rw [hlm]; exact Nat.mul_le_mul hm (by omega)
    obtain ⟨r', hr', hq'⟩ := refJoin_tells (l.map own) (by omega) k (by omega)
    rw [map_own] at hq'
    have hrr : r.map sp29 = r'.map sp25 := by rw [hq, hq']
    have hll : r.length = r'.length := by have := congrArg List.length hrr; simpa using this
    rw [hr, hr']
    simp only [Option.bind_some]
    have hrl : r.length < 4398046511104 ∧ r.length + 9 ≤ k := by
      have h1 := put_length (cleaned (l.map sp29)) []
      have h2 := cleaned_length (l.map sp29)
      have h3 : r.length = ((cleaned (l.map sp29)).foldl put []).length := by rw [← hq]; simp
      simp at h1 h2
      omega
    rw [if_pos (by omega)]
    exact TickJoins_T_l1 r r' hrr hrl.1 r.length k 0 (by omega) (by omega) (by omega)
  | succ d ih =>
    intro k i hd hi hk
    obtain ⟨k, rfl⟩ : ∃ m, k = m + 1 := ⟨k - 1, by omega⟩
    have hil : i < l.length := by omega
    simp only [berthinglaw01_TickJoins_T.l0]
    rw [if_pos (by omega), if_pos (by omega), rd29_get _ _ hil, Own_tells]
    simp only [Option.bind_some]
    rw [if_pos (by simp; omega), wrap_small (by omega) (by omega)]
    have := ih k (i + 1) (by omega) (by omega) (by omega)
    rw [show ((i + 1 : Nat) : Int) = (i : Int) + 1 from by omega, List.take_succ_eq_append_getElem hil, List.map_append] at this
    exact this
theorem TickJoins_T_law (l : List S29) (h : 60 < l.length) : berthinglaw01_TickJoins_T.f 6000 l = some true := by
  unfold berthinglaw01_TickJoins_T.f
  rw [if_pos (by omega), if_pos (by omega)]
  exact TickJoins_T_l0 (l.take 60) (by rw [List.length_take]; omega) 60 6000 0 (by rw [List.length_take]; omega) (by omega) (by omega)
theorem TickJoins_F_law (l : List S29) (h : ¬ 60 < l.length) : berthinglaw01_TickJoins_F.f 6000 l = some true := by
  unfold berthinglaw01_TickJoins_F.f
  rw [if_neg (by omega)]
  exact TickJoins_F_l0 l (by omega) l.length 6000 0 (by omega) (by omega) (by omega)

end Go.Proofs.Ytgdlhfmdgibkbaa.PTick
