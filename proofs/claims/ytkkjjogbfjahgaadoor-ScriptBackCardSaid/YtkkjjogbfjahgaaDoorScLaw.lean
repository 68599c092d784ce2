/- A part of the proofs over script (ScLaw): contracts of the program's functions and plain laws. Conditions: those that each theorem states. -/
import Derived.Test.YtkkjjogbfjahgaaDoorScSteps
import Derived.Test.YtkkjjogbfjahgaaDoorPScx41
set_option linter.unusedVariables false
set_option linter.unusedSimpArgs false
/- The plain law of ScriptBack. -/
namespace Go.Proofs.YtkkjjogbfjahgaaDoor.Sc
open Go Go.Proofs Go.RowKit Go.Proofs.CodBytes Go.Proofs.YtkkjjogbfjahgaaDoorW.PrintWords Go.Proofs.YtkkjjogbfjahgaaDoorW.PrintLast Go.Proofs.YtkkjjogbfjahgaaDoorW.PrintMore Go.Proofs.YtkkjjogbfjahgaaDoor.PSc Go.Proofs.YtkkjjogbfjahgaaDoor.CodSame Go.Proofs.YtkkjjogbfjahgaaDoor.Cur

theorem one100 : berthinglaw28_one.f 100 = some true := by
 have h1 : script_Read.f [8, 10] = some ([(⟨4, z39, noS, 0, z40⟩ : S42), (⟨5, z39, noS, 0, z40⟩ : S42)], 0) := by kernel_rfl
 have h2 : script_Put.f 100 [(⟨4, z39, noS, 0, z40⟩ : S42), (⟨5, z39, noS, 0, z40⟩ : S42)] = some [8, 10] := by kernel_rfl
 unfold berthinglaw28_one.f
 rw [h1, Option.bind_some]
 refine (congrArg (fun o => Option.bind o _) h2).trans ?_
 rw [Option.bind_some, if_pos (by rw [ByteArray.toList_eq]; rfl), if_pos rfl, if_pos (by simp), if_pos (by simp)]
 rfl
theorem one_f (k : Nat) (hk : 100 ≤ k) : berthinglaw28_one.f k = some true := up (f := fun k => berthinglaw28_one.f k) (fun k => berthinglaw28_one.mono k) one100 hk
theorem zeros_f : script_Read.f (List.replicate 65537 0) = some ([], 3) := by
 unfold script_Read.f
 rw [if_pos ⟨fun x hx => by rw [(List.mem_replicate.1 hx).2]; omega, by rw [List.length_replicate]; omega⟩, if_pos (by rw [List.length_replicate]; omega)]
theorem back_end (y : List S42) (h40 : y.length ≤ 40) (h : ∀ x ∈ y, GoodS x) (k : Nat) (hk : 200 ≤ k) : berthinglaw28_ScriptBack.l1 (k + 1) y (flat y) y (y.length : Int) = some true := by
 have hl := flat_len y h
 rw [berthinglaw28_ScriptBack.l1, if_neg (by omega)]
 by_cases h0 : y = []
 ·subst h0
  rw [if_pos (by decide), if_pos (by decide), one_f k (by omega)]; rfl
 have hp := List.length_pos_iff.2 h0
 have hw : wrap64 (((flat y).length : Int) - 1) = (((flat y).length - 1 : Nat) : Int) := by unfold wrap64; omega
 have hw2 : wrap64 ((y.length : Int) - 1) = ((y.length - 1 : Nat) : Int) := by unfold wrap64; omega
 obtain ⟨c, hc⟩ := read_cut y (by omega) h h0
 rw [if_neg (by omega), hw, if_pos (by omega), if_pos (by omega), Int.toNat_natCast, ← List.dropLast_eq_take, hc, Option.bind_some, if_pos (by omega), zeros_f, Option.bind_some, hw2, if_pos (by dsimp only; rw [List.length_dropLast]), if_pos rfl, one_f k (by omega)]
 rfl
theorem back_l (y : List S42) (h40 : y.length ≤ 40) (h : ∀ x ∈ y, GoodS x) : ∀ (d i k : Nat), i + d = y.length → d + 201 ≤ k →
  berthinglaw28_ScriptBack.l1 k y (flat y) y (i : Int) = some true
 | 0, i, k, hi, hk => by
  obtain ⟨k, rfl⟩ : ∃ m, k = m + 1 := ⟨k - 1, by omega⟩
  obtain rfl : i = y.length := by omega
  exact back_end y h40 h k (by omega)
 | d + 1, i, k, hi, hk => by
  obtain ⟨k, rfl⟩ : ∃ m, k = m + 1 := ⟨k - 1, by omega⟩
  rw [berthinglaw28_ScriptBack.l1, if_pos (by omega), if_pos (by omega), if_pos (by omega), if_neg (by simp), wrap_nat i (by omega)]
  exact back_l y h40 h d (i + 1) k (by omega) (by omega)
theorem back_fin (x0 y : List S42) (h40 : y.length ≤ 40) (h : ∀ x ∈ y, GoodS x) (k : Nat) (hk : 300 ≤ k) (i : Int) : berthinglaw28_ScriptBack.j1 (k + 1) x0 y i false = some true := by
 rw [berthinglaw28_ScriptBack.j1, if_neg (by simp), put_f' y (by omega) h k (by omega), Option.bind_some, read_back y (by omega) h, Option.bind_some, if_pos rfl]
 obtain ⟨m, rfl⟩ : ∃ m, k = m + 1 := ⟨k - 1, by omega⟩
 rw [berthinglaw28_ScriptBack.j2, if_neg (by simp)]
 exact back_l y h40 h y.length 0 m (by omega) (by omega)
theorem back_law1 (l : List S42) (hl : ∀ x ∈ l, Step64 x) : ∀ (d i k : Nat) (y : List S42), i + d = 40 → 2 * d + 310 ≤ k → y.length ≤ i → (∀ x ∈ y, GoodS x) →
  berthinglaw28_ScriptBack.l0 k l y (i : Int) = some true
 | d, i, k, y, hi, hk, hy, hg => by
  obtain ⟨k, rfl⟩ : ∃ m, k = m + 1 := ⟨k - 1, by omega⟩
  rw [berthinglaw28_ScriptBack.l0]
  by_cases h1 : (i : Int) < (l.length : Int)
  ·rw [if_pos h1]
   match d, hi, hk with
   | 0, hi, hk =>
    rw [decide_eq_false (by omega)]
    obtain ⟨m, rfl⟩ : ∃ m, k = m + 1 := ⟨k - 1, by omega⟩
    exact back_fin l y (by omega) hg m (by omega) i
   | d + 1, hi, hk =>
    rw [decide_eq_true (by omega)]
    obtain ⟨m, rfl⟩ : ∃ m, k = m + 1 + 1 := ⟨k - 2, by omega⟩
    have hil : i < l.length := by omega
    have hx := hl l[i] (List.getElem_mem hil)
    rw [berthinglaw28_ScriptBack.j1, if_pos rfl, if_pos (by omega), if_pos (by omega), rd42 l i hil, rightS_f m l[i], Option.bind_some, wrap_nat i (by omega)]
    by_cases hr : rightS l[i] = true
    ·rw [if_pos hr, cleanS_f m l[i], Option.bind_some, if_pos (by omega)]
     refine back_law1 l hl d (i + 1) (m + 1) (y ++ [cleanS l[i]]) (by omega) (by omega) (by rw [List.length_append, List.length_singleton]; omega) ?_
     intro x hx2
     rcases List.mem_append.1 hx2 with hx2 | hx2
     ·exact hg x hx2
     ·rw [List.mem_singleton.1 hx2]; exact good_of _ hx hr
    ·rw [if_neg hr]
     exact back_law1 l hl d (i + 1) (m + 1) y (by omega) (by omega) (by omega) hg
  ·rw [if_neg h1]
   obtain ⟨m, rfl⟩ : ∃ m, k = m + 1 := ⟨k - 1, by omega⟩
   exact back_fin l y (by omega) hg m (by omega) i
theorem ScriptBack_walk (a0 : Option Addr) (c0 : Nat) (l0 : List S42) (w : World) (hr0 : Kd.C k42 w a0 l0.length l0) (hc0 : l0.length ≤ c0) (hl : ∀ x ∈ l0, Step64 x) (hE : Cur.ErrT w) :
  Calls Tryd.prog 5 #[.slice a0 l0.length c0] w fun e w' => e = .returned (.bool true) ∧ Below w.heap.size w w' :=
 berthinglaw28_ScriptBack.calls 1000 a0 c0 l0 true w hE hr0 hc0 (back_law1 l0 hl 40 0 1000 [] (by omega) (by omega) (by simp) (by simp))
end Go.Proofs.YtkkjjogbfjahgaaDoor.Sc
