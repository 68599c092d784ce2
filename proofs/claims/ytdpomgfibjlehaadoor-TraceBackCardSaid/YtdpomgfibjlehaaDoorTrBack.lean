/- A part of the proofs over trace (TrBack): contracts of the program's functions and plain laws. Conditions: those that each theorem states. -/
import Derived.Test.YtdpomgfibjlehaaDoorTrTamed
import Derived.Test.YtdpomgfibjlehaaDoorPTrx17
set_option linter.unusedVariables false
set_option linter.unusedSimpArgs false
/- The plain law of TraceBack. -/
namespace Go.Proofs.YtdpomgfibjlehaaDoor.Tr
open Go Go.Proofs Go.RowKit Go.Lib Go.Proofs.CodBytes Go.Proofs.YtdpomgfibjlehaaDoorW.PrintWords Go.Proofs.YtdpomgfibjlehaaDoorW.PrintLast Go.Proofs.YtdpomgfibjlehaaDoorW.PrintMore Go.Proofs.YtdpomgfibjlehaaDoor.PTr Go.Proofs.YtdpomgfibjlehaaDoor.CodSame Go.Proofs.YtdpomgfibjlehaaDoor.Cur
theorem back_end (y : List S46) (a : Int) (ha : I64 a) (h40 : y.length ≤ 40) (hy : ∀ x ∈ y, EvOk x ∧ rightB x = true) (hf : fineL y = true) (k : Nat) (hk : 200 ≤ k) (x6 : List S46) :
    berthinglaw32_TraceBack.l0 (k + 1) y a x6 (y.length : Int) = some true := by
  rw [berthinglaw32_TraceBack.l0, if_neg (by omega)]
  by_cases h2 : (y.length : Int) < 2
  · rw [if_pos h2, one_f k (by omega)]; rfl
  rw [if_neg h2]
  obtain ⟨K, hK, hKn⟩ := index_K y.length (by omega) h40 a ha
  have hw : wrap64 ((y.length : Int) - 1) = (y.length : Int) - 1 := by unfold wrap64; omega
  rw [if_neg (by rw [hw]; omega), Option.bind_some, if_pos (by simp only [List.length_nil]; omega), Option.bind_some, List.nil_append]
  simp only [hK]
  rw [wrap_nat K (by omega), if_pos (by omega), if_pos (by omega), if_pos (by omega), if_pos (by omega), if_pos (by omega), if_pos (by omega)]
  have e0 : rd_T46 y (K : Int) = y[K] := rd46 y K (by omega)
  have e1 : rd_T46 y ((K + 1 : Nat) : Int) = y[K + 1] := rd46 y (K + 1) hKn
  rw [e0, e1, Int.toNat_natCast, Int.toNat_natCast]
  have hm : ∀ x ∈ (y.set K y[K + 1]).set (K + 1) y[K], EvOk x := by
    intro x hx
    rcases List.mem_or_eq_of_mem_set hx with hx | rfl
    · rcases List.mem_or_eq_of_mem_set hx with hx | rfl
      · exact (hy x hx).1
      · exact (hy _ (List.getElem_mem _)).1
    · exact (hy _ (List.getElem_mem _)).1
  have hp := put_f' ((y.set K y[K + 1]).set (K + 1) y[K]) (by rw [List.length_set, List.length_set]; omega) hm k (by rw [List.length_set, List.length_set]; omega)
  refine (congrArg (fun o => Option.bind o _) hp).trans ?_
  rw [Option.bind_some, if_pos (swap_law y K hKn hy hf), one_f k (by omega)]; rfl
theorem back_l (y : List S46) (a : Int) (ha : I64 a) (h40 : y.length ≤ 40) (hy : ∀ x ∈ y, EvOk x ∧ rightB x = true) (hf : fineL y = true) : ∀ (d i k : Nat), i + d = y.length → d + 201 ≤ k →
    berthinglaw32_TraceBack.l0 k y a y (i : Int) = some true
  | 0, i, k, hi, hk => by
    obtain ⟨k, rfl⟩ : ∃ m, k = m + 1 := ⟨k - 1, by omega⟩
    obtain rfl : i = y.length := by omega
    exact back_end y a ha h40 hy hf k (by omega) y
  | d + 1, i, k, hi, hk => by
    obtain ⟨k, rfl⟩ : ∃ m, k = m + 1 := ⟨k - 1, by omega⟩
    rw [berthinglaw32_TraceBack.l0, if_pos (by omega), if_pos (by omega), if_pos (by omega), if_neg (by simp), wrap_nat i (by omega)]
    exact back_l y a ha h40 hy hf d (i + 1) k (by omega) (by omega)
theorem back_law (l : List S46) (a : Int) (ha : I64 a) (hn : l.length < 9223372036854775808) (hl : ∀ x ∈ l, EvOk x) (k : Nat) (hk : 1000 ≤ k) : berthinglaw32_TraceBack.f k l a = some true := by
  have hT : berthinglaw32_Tame.f l 40 = some (tameL l 40) := by unfold berthinglaw32_Tame.f; rw [if_pos ⟨hn, by decide, by decide⟩]
  have h40 : (tameL l 40).length ≤ 40 := tameL_len l 40
  obtain ⟨hy, hf⟩ : (∀ x ∈ tameL l 40, EvOk x ∧ rightB x = true ∧ x.f4 < 1000000) ∧ fineL (tameL l 40) = true := tameL_ok l 40 (by omega) hl
  unfold berthinglaw32_TraceBack.f
  rw [hT, Option.bind_some]
  generalize tameL l 40 = y at h40 hy hf
  have hyE : ∀ x ∈ y, EvOk x := fun x hx => (hy x hx).1
  have hF := fine_from y hyE hf
  have hb : putL y = layN (putN y) := by unfold putL; rw [if_pos hf]
  have hlen := putL_len y
  have hbytes := putL_bytes y (by omega) hyE
  have hne : putL y ≠ [] := by rw [hb]; exact layN_pos _ (by unfold putN; simp)
  have h1 : trace_Read.f (putL y) = some (y, 0) := by unfold trace_Read.f; rw [if_pos ⟨hbytes, by omega⟩, hb, read_back y (by omega) hF]
  have h2 : trace_Read.f (putL y).dropLast = some ([], 11) := by
    unfold trace_Read.f; rw [if_pos ⟨fun x hx => hbytes x (List.dropLast_subset _ hx), by rw [List.length_dropLast]; omega⟩, hb, read_cut y (by omega) hF]
  have hbb : ∀ x ∈ putL y ++ [0], 0 ≤ x ∧ x < 256 := by
    intro x hx
    rcases List.mem_append.1 hx with hx | hx
    · exact hbytes x hx
    · simp only [List.mem_singleton] at hx; subst hx; exact ⟨by decide, by decide⟩
  have h3 : trace_Read.f (putL y ++ [0]) = some ([], 11) := by
    unfold trace_Read.f
    rw [if_pos ⟨hbb, by rw [List.length_append]; simp only [List.length_cons, List.length_nil]; omega⟩, hb, read_more y (by omega) hF]
  have hpos : 0 < (putL y).length := List.length_pos_iff.2 hne
  rw [put_f' y (by omega) hyE k (by omega), Option.bind_some, if_neg (by omega), h1, Option.bind_some]
  have hw : wrap64 (((putL y).length : Int) - 1) = (((putL y).length - 1 : Nat) : Int) := by unfold wrap64; omega
  rw [hw, if_pos (by omega), if_pos (by omega), Int.toNat_natCast, ← List.dropLast_eq_take, h2, Option.bind_some, Option.bind_some, List.nil_append, if_pos (by simp only [List.length_nil]; omega), Option.bind_some,
    if_pos (by omega), h3, Option.bind_some, if_pos rfl, if_pos rfl, if_pos rfl]
  obtain ⟨k, rfl⟩ : ∃ m, k = m + 1 := ⟨k - 1, by omega⟩
  rw [berthinglaw32_TraceBack.j0, if_neg (by simp)]
  exact back_l y a ha h40 (fun x hx => ⟨(hy x hx).1, (hy x hx).2.1⟩) hf y.length 0 k (by omega) (by omega)
theorem TraceBack_walk (a0 : Option Addr) (c0 : Nat) (l0 : List S46) (a1 : Int) (w : World) (hr0 : Kd.C k46 w a0 l0.length l0) (hc0 : l0.length ≤ c0) (hl : ∀ x ∈ l0, EvOk x) (h1 : I64 a1) (hE : Cur.ErrT w) :
    Calls Tryd.prog 5 #[.slice a0 l0.length c0, .int .i64 a1] w fun e w' => e = .returned (.bool true) ∧ Below w.heap.size w w' :=
  berthinglaw32_TraceBack.calls 1000 a0 c0 l0 a1 true w hE hr0 hc0 (back_law l0 a1 h1 (C_few hr0) hl 1000 (Nat.le_refl _))
end Go.Proofs.YtdpomgfibjlehaaDoor.Tr
