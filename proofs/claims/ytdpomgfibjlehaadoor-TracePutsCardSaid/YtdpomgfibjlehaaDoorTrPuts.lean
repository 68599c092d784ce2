/- A part of the proofs over trace (TrPuts): contracts of the program's functions and plain laws. Conditions: those that each theorem states. -/
import Derived.Test.YtdpomgfibjlehaaDoorTrPlain
import Derived.Test.YtdpomgfibjlehaaDoorPTrx15
set_option linter.unusedVariables false
set_option linter.unusedSimpArgs false
/- The plain law of TracePuts. -/
namespace Go.Proofs.YtdpomgfibjlehaaDoor.Tr
open Go Go.Proofs Go.RowKit Go.Lib Go.Proofs.CodBytes Go.Proofs.YtdpomgfibjlehaaDoorW.PrintWords Go.Proofs.YtdpomgfibjlehaaDoorW.PrintLast Go.Proofs.YtdpomgfibjlehaaDoorW.PrintMore Go.Proofs.YtdpomgfibjlehaaDoor.PTr Go.Proofs.YtdpomgfibjlehaaDoor.CodSame Go.Proofs.YtdpomgfibjlehaaDoor.Cur

theorem finR_len (bs : List Int) (e : Int) (out : List S46) : (finR bs e out).1.length ≤ out.length := by
  unfold finR; split
  · exact Nat.le_refl _
  · exact Nat.zero_le _
theorem rdLoop_len : ∀ (n : Nat) (bs : List Int) (e at_ : Int) (out : List S46), (rdLoop n bs e at_ out).1.length ≤ out.length + n
  | 0, bs, e, at_, out => by unfold rdLoop; exact finR_len bs e out
  | n + 1, bs, e, at_, out => by
    rw [rdLoop]
    split
    · dsimp only
      split
      · split
        · refine Nat.le_trans (rdLoop_len n _ _ _ _) ?_
          rw [List.length_append]; simp only [List.length_cons, List.length_nil]; omega
        · exact Nat.zero_le _
      · exact Nat.zero_le _
    · exact Nat.le_trans (finR_len bs e out) (Nat.le_add_right _ _)
theorem readL_len (bs : List Int) : (readL bs).1.length ≤ 65536 := by
  unfold readL
  have h1 := smallOf_range 65536 (by omega) bs 0
  have h2 := rdLoop_len (smallOf 65536 bs 0).1.toNat (smallOf 65536 bs 0).2.1 (smallOf 65536 bs 0).2.2 0 []
  simp only [List.length_nil] at h2
  dsimp only
  omega

theorem cmp_l (y : List S35) (hn : y.length < 1000000) : ∀ (d i k : Nat), i + d = y.length → d + 40 ≤ k → berthinglaw32_TracePuts.l0 k y y (i : Int) = some true
  | 0, i, k, hi, hk => by
    obtain ⟨k, rfl⟩ : ∃ m, k = m + 1 := ⟨k - 1, by omega⟩
    rw [berthinglaw32_TracePuts.l0, if_neg (by omega), one_f k (by omega)]; rfl
  | d + 1, i, k, hi, hk => by
    obtain ⟨k, rfl⟩ : ∃ m, k = m + 1 := ⟨k - 1, by omega⟩
    rw [berthinglaw32_TracePuts.l0, if_pos (by omega), if_pos (by omega), if_pos (by omega), if_neg (by simp), wrap_nat i (by omega)]
    exact cmp_l y hn d (i + 1) k (by omega) (by omega)
theorem puts_law (l : List S46) (bs : List Int) (hl : ∀ x ∈ l, EvOk x) (hb : ∀ x ∈ bs, 0 ≤ x ∧ x < 256) (k : Nat) (hk : 100000 ≤ k) : berthinglaw32_TracePuts.f k l bs = some true := by
  have hj : ∀ c : Bool, c = true → berthinglaw32_TracePuts.j0 k l bs c = some true := by
    intro c hc
    obtain ⟨k, rfl⟩ : ∃ m, k = m + 1 := ⟨k - 1, by omega⟩
    rw [berthinglaw32_TracePuts.j0, if_pos hc]
  unfold berthinglaw32_TracePuts.f
  by_cases h1 : (l.length : Int) > 60
  · rw [if_pos h1]; exact hj _ rfl
  rw [if_neg h1]
  by_cases h2 : (bs.length : Int) > 2000
  · exact hj _ (decide_eq_true h2)
  rw [decide_eq_false h2]
  obtain ⟨k, rfl⟩ : ∃ m, k = m + 1 := ⟨k - 1, by omega⟩
  have hr1 : trace_Read.f bs = some (readL bs) := by unfold trace_Read.f; rw [if_pos ⟨hb, by omega⟩]
  have hr2 : berthingref32_Read.f (strOfNums bs) = some ((readL bs).1.map toR, (readL bs).2) := by
    unfold berthingref32_Read.f; rw [if_pos (by rw [size_str]; omega), numsS_strOf bs hb, read_same]
  have hn := readL_len bs
  rw [berthinglaw32_TracePuts.j0, if_neg (by decide), hr1, Option.bind_some, hr2, Option.bind_some, if_pos rfl, if_pos (by rw [List.length_map]),
    put_f' l (by omega) hl k (by omega), Option.bind_some, own_f l (by omega) k (by omega), Option.bind_some, refput_f' l (by omega) hl k (by omega), Option.bind_some]
  obtain ⟨k, rfl⟩ : ∃ m, k = m + 1 := ⟨k - 1, by omega⟩
  rw [berthinglaw32_TracePuts.j1, if_neg (by simp), own_f _ (by omega) k (by omega), Option.bind_some]
  exact cmp_l ((readL bs).1.map toR) (by rw [List.length_map]; omega) _ 0 k (Nat.zero_add _) (by rw [List.length_map]; omega)

theorem TracePuts_walk (a0 : Option Addr) (c0 : Nat) (l0 : List S46) (a1 : Option Addr) (c1 : Nat) (l1 : List Int) (w : World) (hr0 : Kd.C k46 w a0 l0.length l0) (hc0 : l0.length ≤ c0) (hl : ∀ x ∈ l0, EvOk x) (hr1 : Kd.C (Kd.int .u8) w a1 l1.length l1) (hc1 : l1.length ≤ c1) (hb : ∀ x ∈ l1, 0 ≤ x ∧ x < 256) (hE : Cur.ErrT w) :
    Calls Tryd.prog 3 #[.slice a0 l0.length c0, .slice a1 l1.length c1] w fun e w' => e = .returned (.bool true) ∧ Below w.heap.size w w' :=
  berthinglaw32_TracePuts.calls 100000 a0 c0 l0 a1 c1 l1 true w hE hr0 hc0 hr1 hc1 (puts_law l0 l1 hl hb 100000 (Nat.le_refl _))
end Go.Proofs.YtdpomgfibjlehaaDoor.Tr
