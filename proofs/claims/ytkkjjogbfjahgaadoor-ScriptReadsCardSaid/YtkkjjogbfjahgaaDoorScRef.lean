/- The reference's Read of steps, for the print. Conditions: fewer than 2^47 bytes. -/
import Derived.Test.YtkkjjogbfjahgaaDoorSmE
set_option linter.unusedVariables false
set_option linter.unusedSimpArgs false
namespace Go.Proofs.YtkkjjogbfjahgaaDoor.Sm
open Go Go.Proofs Go.RowKit Go.Proofs.CodBytes Go.Proofs.YtkkjjogbfjahgaaDoorW.PrintWords Go.Proofs.YtkkjjogbfjahgaaDoorW.PrintLast Go.Proofs.YtkkjjogbfjahgaaDoorW.PrintMore
theorem str_bytes (a : ByteArray) : strOfNums (bytesOf a) = a := by
  unfold bytesOf strOfNums
  simp only [List.map_map]
  have : (List.map ((fun x : Int => x.toNat.toUInt8) ∘ fun b : UInt8 => (b.toNat : Int)) a.data.toList) = a.data.toList := by
    refine (List.map_congr_left (fun x hx => ?_)).trans (List.map_id _)
    simp [Function.comp]
  rw [this]
theorem bytesOf_in (a : ByteArray) : ∀ x ∈ bytesOf a, 0 ≤ x ∧ x < 256 := by
  intro x hx
  unfold bytesOf at hx
  obtain ⟨b, _, rfl⟩ := List.mem_map.1 hx
  have := b.toNat_lt
  omega
end Go.Proofs.YtkkjjogbfjahgaaDoor.Sm
namespace Go.Proofs.YtkkjjogbfjahgaaDoor.PSc
open Go Go.Proofs Go.RowKit Go.Proofs.CodBytes Go.Proofs.YtkkjjogbfjahgaaDoorW.PrintWords Go.Proofs.YtkkjjogbfjahgaaDoorW.PrintLast Go.Proofs.YtkkjjogbfjahgaaDoorW.PrintMore
def berthingref28_Read.f (a0 : ByteArray) : Option (List S35 × Int) :=
  if a0.size < 140737488355328 then (if 65536 < a0.size then some ([], 3) else (Sm.refReadS (a0.size + 1) (bytesOf a0) []).map fun R => (R.1.map Sm.toS35, R.2)) else none
theorem berthingref28_Read.calls (a0 : ByteArray) (r0 : List S35) (r1 : Int) (w : World) (h : berthingref28_Read.f a0 = some (r0, r1)) :
    Calls Tryd.prog 7 #[.string a0] w fun e w' => ∃ v0_ : Value, e = .returned (.tuple #[v0_, .int .i64 r1]) ∧ Kd.R k35 35 w' w.heap.size (fun _ => True) v0_ r0 ∧ Below w.heap.size w w' := by
  unfold berthingref28_Read.f at h
  split at h
  · rename_i hn
    have hl := bytesOf_length a0
    have hB : Sm.By (bytesOf a0) := ⟨Sm.bytesOf_in a0, by rw [hl]; exact hn⟩
    obtain ⟨R, hR, he⟩ : ∃ R, (if 65536 < (bytesOf a0).length then some ([], 3) else Sm.refReadS ((bytesOf a0).length + 1) (bytesOf a0) []) = some R ∧ (R.1.map Sm.toS35, R.2) = (r0, r1) := by
      rw [hl]
      split at h
      · rename_i hb; rw [if_pos hb]; exact ⟨_, rfl, Option.some.inj h⟩
      · rename_i hb; rw [if_neg hb]
        obtain ⟨R, h1, h2⟩ := Option.map_eq_some_iff.1 h
        exact ⟨R, h1, h2⟩
    have := Sm.read28_c (bytesOf a0) hB w R hR
    rw [Sm.str_bytes] at this
    obtain ⟨h1, h2⟩ := Prod.mk.inj he
    rw [h1, h2] at this
    exact this
  · cases h
end Go.Proofs.YtkkjjogbfjahgaaDoor.PSc
