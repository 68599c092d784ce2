/- A part of the proofs over script (Same): contracts of the program's functions and plain laws. Conditions: those that each theorem states. -/
import Derived.Laws.BitsLemmas
import Derived.Laws.BytesArg
import Derived.Test.YtkkjjogbfjahgaaDoorBits
import Derived.IntWalk
import Derived.Test.YtkkjjogbfjahgaaDoorPScx18
import Derived.Test.YtkkjjogbfjahgaaDoorCurA
set_option linter.unusedVariables false
set_option linter.unusedSimpArgs false
namespace Go.Proofs.CodBytes
open Go Go.Proofs Go.RowKit Go.Proofs.BitsPlain

theorem size_str (xs : List Int) : (strOfNums xs).size = xs.length := by simp [strOfNums, ByteArray.size]
theorem str_append (xs ys : List Int) : strOfNums (xs ++ ys) = strOfNums xs ++ strOfNums ys := by
  apply ByteArray.ext
  simp [strOfNums]
theorem str_drop (xs : List Int) (m : Nat) : (strOfNums xs).extract m (strOfNums xs).size = strOfNums (xs.drop m) := by
  apply ByteArray.ext
  rw [ByteArray.data_extract, size_str]
  simp only [strOfNums, List.map_drop, List.extract_toArray, List.extract_eq_take_drop]
  rw [List.take_of_length_le (by simp)]
theorem str_nil : strOfNums [] = (⟨#[]⟩ : ByteArray) := rfl
theorem str_at (xs : List Int) (i : Nat) (hi : i < (strOfNums xs).size) (h : i < xs.length) (hb : 0 ≤ xs[i] ∧ xs[i] < 256) : (((strOfNums xs)[i]'hi).toNat : Int) = xs[i] := by
  have e : (strOfNums xs)[i]'hi = UInt8.ofNat (xs[i]).toNat := by
    show (strOfNums xs).data[i]'_ = _
    simp [strOfNums]
  rw [e, UInt8.toNat_ofNat']
  omega

theorem or128_all : ∀ x : Fin 256, Go.bits .or .u8 (x.val : Int) 128 = (x.val : Int) % 128 + 128 := by decide +kernel
theorem or128 (x : Int) (h0 : 0 ≤ x) (h1 : x < 256) : Go.bits .or .u8 x 128 = x % 128 + 128 := by
  obtain ⟨n, rfl⟩ := Int.eq_ofNat_of_zero_le h0
  exact or128_all ⟨n, by omega⟩
theorem not128_all : ∀ x : Fin 256, Go.bits .andNot .u8 (x.val : Int) 128 = (x.val : Int) % 128 := by decide +kernel
theorem not128 (x : Int) (h0 : 0 ≤ x) (h1 : x < 256) : Go.bits .andNot .u8 x 128 = x % 128 := by
  obtain ⟨n, rfl⟩ := Int.eq_ofNat_of_zero_le h0
  exact not128_all ⟨n, by omega⟩

theorem or_shift (u y i : Nat) (hu : u < 2 ^ i) (hu64 : u < 18446744073709551616) (hy : y * 2 ^ i < 18446744073709551616) : Go.bits .or .u64 (u : Int) ((y * 2 ^ i : Nat) : Int) = ((u + y * 2 ^ i : Nat) : Int) := by
  rw [bits_or_u64_nat u _ hu64 hy]
  congr 1
  rw [Nat.or_comm, Nat.mul_comm, ← Nat.two_pow_add_eq_or_of_lt hu, Nat.add_comm]

theorem xor_zero_u64 (x : Nat) (hx : x < 18446744073709551616) : Go.bits .xor .u64 (x : Int) 0 = (x : Int) := by
  have h1 : (BitVec.ofInt 64 (x : Int)).toNat = x := by rw [BitVec.ofInt_natCast, BitVec.toNat_ofNat]; exact Nat.mod_eq_of_lt (by omega)
  show IntKind.u64.wrap ((BitVec.ofInt 64 (x : Int) ^^^ BitVec.ofInt 64 0).toNat : Int) = _
  rw [show (BitVec.ofInt 64 0) = 0#64 from rfl, BitVec.xor_zero, h1, IntKind.wrap_u64]; omega
theorem xor_ones_u64 (x : Nat) (hx : x < 18446744073709551616) : Go.bits .xor .u64 (x : Int) 18446744073709551615 = 18446744073709551615 - (x : Int) := by
  have h1 : (BitVec.ofInt 64 (x : Int)).toNat = x := by rw [BitVec.ofInt_natCast, BitVec.toNat_ofNat]; exact Nat.mod_eq_of_lt (by omega)
  show IntKind.u64.wrap ((BitVec.ofInt 64 (x : Int) ^^^ BitVec.ofInt 64 18446744073709551615).toNat : Int) = _
  rw [show (BitVec.ofInt 64 18446744073709551615) = BitVec.allOnes 64 from by decide, BitVec.xor_allOnes, BitVec.toNat_not, h1, IntKind.wrap_u64]; omega
theorem xor_zero_i64 (x : Nat) (hx : x < 9223372036854775808) : Go.bits .xor .i64 (x : Int) 0 = (x : Int) := by
  have h1 : (BitVec.ofInt 64 (x : Int)).toNat = x := by rw [BitVec.ofInt_natCast, BitVec.toNat_ofNat]; exact Nat.mod_eq_of_lt (by omega)
  show IntKind.i64.wrap ((BitVec.ofInt 64 (x : Int) ^^^ BitVec.ofInt 64 0).toNat : Int) = _
  rw [show (BitVec.ofInt 64 0) = 0#64 from rfl, BitVec.xor_zero, h1, IntKind.wrap_i64]; omega
theorem xor_ones_i64 (x : Nat) (hx : x < 9223372036854775808) : Go.bits .xor .i64 (x : Int) (-1) = -(x : Int) - 1 := by
  have h1 : (BitVec.ofInt 64 (x : Int)).toNat = x := by rw [BitVec.ofInt_natCast, BitVec.toNat_ofNat]; exact Nat.mod_eq_of_lt (by omega)
  show IntKind.i64.wrap ((BitVec.ofInt 64 (x : Int) ^^^ BitVec.ofInt 64 (-1)).toNat : Int) = _
  rw [show (BitVec.ofInt 64 (-1)) = BitVec.allOnes 64 from by decide, BitVec.xor_allOnes, BitVec.toNat_not, h1, IntKind.wrap_i64]; omega
theorem and_one_u64 (u : Nat) (hu : u < 18446744073709551616) : Go.bits .and .u64 (u : Int) 1 = ((u % 2 : Nat) : Int) := by
  rw [show (1 : Int) = ((1 : Nat) : Int) from rfl, bits_and_u64_nat u 1 hu (by omega), Nat.and_one_is_mod]

/-- a whole number with its sign folded -/
def foldI (v : Int) : Int := if v < 0 then -2 * v - 1 else 2 * v
theorem fold_bits (v : Int) (h0 : -9223372036854775808 ≤ v) (h1 : v < 9223372036854775808) :
    Go.bits .xor .u64 (IntKind.u64.wrap (wrap64 (v * 2))) (IntKind.u64.wrap (v / 9223372036854775808)) = foldI v := by
  unfold foldI
  by_cases hv : v < 0
  · rw [if_pos hv, show v / 9223372036854775808 = -1 by omega]
    have e1 : IntKind.u64.wrap (wrap64 (v * 2)) = ((18446744073709551616 + 2 * v).toNat : Int) := by rw [IntKind.wrap_u64]; unfold wrap64; omega
    rw [e1, show IntKind.u64.wrap (-1) = 18446744073709551615 from by rw [IntKind.wrap_u64]; rfl, xor_ones_u64 _ (by omega)]
    omega
  · rw [if_neg hv, show v / 9223372036854775808 = 0 by omega]
    have e1 : IntKind.u64.wrap (wrap64 (v * 2)) = ((2 * v).toNat : Int) := by rw [IntKind.wrap_u64]; unfold wrap64; omega
    rw [e1, show IntKind.u64.wrap 0 = 0 from by rw [IntKind.wrap_u64]; rfl, xor_zero_u64 _ (by omega)]
    omega
theorem fold_range (v : Int) (h0 : -9223372036854775808 ≤ v) (h1 : v < 9223372036854775808) : 0 ≤ foldI v ∧ foldI v < 18446744073709551616 := by
  unfold foldI; split <;> omega
/-- the number that is folded so -/
def unfI (u : Int) : Int := if u % 2 = 1 then -(u / 2) - 1 else u / 2
theorem unf_bits (u : Int) (h0 : 0 ≤ u) (h1 : u < 18446744073709551616) : Go.bits .xor .i64 (wrap64 (u / 2)) (wrap64 (-(wrap64 (Go.bits .and .u64 u 1)))) = unfI u := by
  obtain ⟨n, rfl⟩ := Int.eq_ofNat_of_zero_le h0
  unfold unfI
  rw [and_one_u64 n (by omega)]
  have e1 : wrap64 ((n : Int) / 2) = ((n / 2 : Nat) : Int) := by unfold wrap64; omega
  rw [e1]
  by_cases h : (n : Int) % 2 = 1
  · rw [if_pos h, show wrap64 (-(wrap64 ((n % 2 : Nat) : Int))) = -1 by unfold wrap64; omega, xor_ones_i64 _ (by omega)]
    omega
  · rw [if_neg h, show wrap64 (-(wrap64 ((n % 2 : Nat) : Int))) = 0 by unfold wrap64; omega, xor_zero_i64 _ (by omega)]
    omega
theorem unf_range (u : Int) (h0 : 0 ≤ u) (h1 : u < 18446744073709551616) : -9223372036854775808 ≤ unfI u ∧ unfI u < 9223372036854775808 := by
  unfold unfI; split <;> omega
theorem unf_fold (v : Int) (h0 : -9223372036854775808 ≤ v) (h1 : v < 9223372036854775808) : unfI (foldI v) = v := by
  unfold unfI foldI; split <;> split <;> omega
end Go.Proofs.CodBytes

set_option linter.unusedVariables false
set_option linter.unusedSimpArgs false
namespace Go.Proofs.YtkkjjogbfjahgaaDoor.CodSame
open Go Go.Proofs Go.RowKit Go.Proofs.CodBytes Go.Proofs.YtkkjjogbfjahgaaDoorW.PrintWords Go.Proofs.YtkkjjogbfjahgaaDoorW.PrintLast Go.Proofs.YtkkjjogbfjahgaaDoorW.PrintMore Go.Proofs.YtkkjjogbfjahgaaDoor.PSc Go.Proofs.YtkkjjogbfjahgaaDoor.Cur

/-- a number in groups: the bytes -/
def enc : Nat → Int → List Int
  | 0, u => [u]
  | n + 1, u => if u ≥ 128 then (u % 128 + 128) :: enc n (u / 128) else [u]
theorem enc_length : ∀ (n : Nat) (u : Int), (enc n u).length ≤ n + 1 ∧ 1 ≤ (enc n u).length
  | 0, u => by simp [enc]
  | n + 1, u => by
    unfold enc; split
    · have := enc_length n (u / 128); simp; omega
    · simp
theorem enc_bytes : ∀ (n : Nat) (u : Int), 0 ≤ u → u < 128 ^ (n + 1) → ∀ x ∈ enc n u, 0 ≤ x ∧ x < 256
  | 0, u, h0, h1, x, hx => by simp [enc] at hx; subst hx; omega
  | n + 1, u, h0, h1, x, hx => by
    unfold enc at hx; split at hx
    · rcases List.mem_cons.1 hx with rfl | hx
      · omega
      · refine enc_bytes n (u / 128) (by omega) ?_ x hx
        have e : (128 : Int) ^ (n + 1 + 1) = 128 ^ (n + 1) * 128 := by rw [Int.pow_succ]
        rw [e] at h1; generalize (128 : Int) ^ (n + 1) = p at *; omega
    · simp at hx; subst hx; omega

theorem put_f : ∀ (n k : Nat) (l : List Int) (u : Int), 0 ≤ u → u < 128 ^ (n + 1) → n < k → l.length + n < 140737488355328 → coding_put_uint64.l0 k l u = some (l ++ enc n u)
  | 0, k, l, u, h0, h1, hk, hl => by
    obtain ⟨k, rfl⟩ : ∃ m, k = m + 1 := ⟨k - 1, by omega⟩
    simp only [coding_put_uint64.l0]
    rw [if_neg (by omega), if_pos (by omega)]
    simp only [enc]; rw [show u % 256 = u by omega]
  | n + 1, k, l, u, h0, h1, hk, hl => by
    obtain ⟨k, rfl⟩ : ∃ m, k = m + 1 := ⟨k - 1, by omega⟩
    simp only [coding_put_uint64.l0, enc]
    by_cases h : u ≥ 128
    · rw [if_pos h, if_pos h, if_pos (by omega)]
      have e : (128 : Int) ^ (n + 1 + 1) = 128 ^ (n + 1) * 128 := by rw [Int.pow_succ]
      rw [e] at h1
      rw [put_f n k _ (u / 128) (by omega) (by generalize (128 : Int) ^ (n + 1) = p at *; omega) (by omega) (by simp; omega)]
      rw [or128 _ (by omega) (by omega), show u % 256 % 128 = u % 128 by omega, List.append_assoc]; rfl
    · rw [if_neg h, if_neg h, if_pos (by omega), show u % 256 = u by omega]

def I64 (v : Int) : Prop := -9223372036854775808 ≤ v ∧ v < 9223372036854775808
/-- the bytes of a whole number -/
def bytesI (v : Int) : List Int := enc 9 (foldI v)
theorem bytesI_length (v : Int) : (bytesI v).length ≤ 10 := (enc_length 9 _).1
theorem bytesI_bytes (v : Int) (hv : I64 v) : ∀ x ∈ bytesI v, 0 ≤ x ∧ x < 256 :=
  enc_bytes 9 _ (fold_range v hv.1 hv.2).1 (by have := (fold_range v hv.1 hv.2).2; have e : (128 : Int) ^ (9 + 1) = 1180591620717411303424 := by decide
                                               omega)
theorem putInt_f (k : Nat) (l : List Int) (v : Int) (hv : I64 v) (hk : 10 ≤ k) (hl : l.length + 10 < 140737488355328) : coding_PutInt.f k l v = some (l ++ bytesI v) := by
  have hr := fold_range v hv.1 hv.2
  have e : (128 : Int) ^ (9 + 1) = 1180591620717411303424 := by decide
  unfold coding_PutInt.f slices_Clone_byte_byte.f coding_fold.f coding_put_uint64.f
  simp only [Option.bind_some, List.length_nil, List.nil_append]
  rw [if_pos (by omega)]; simp only [Option.bind_some]
  rw [fold_bits v hv.1 hv.2, put_f 9 k l _ hr.1 (by omega) (by omega) (by omega)]; rfl
end Go.Proofs.YtkkjjogbfjahgaaDoor.CodSame

set_option linter.unusedVariables false
set_option linter.unusedSimpArgs false
namespace Go.Proofs.YtkkjjogbfjahgaaDoor.CodSame
open Go Go.Proofs Go.RowKit Go.Proofs.CodBytes Go.Proofs.YtkkjjogbfjahgaaDoorW.PrintWords Go.Proofs.YtkkjjogbfjahgaaDoorW.PrintLast Go.Proofs.YtkkjjogbfjahgaaDoorW.PrintMore Go.Proofs.YtkkjjogbfjahgaaDoor.PSc Go.Proofs.YtkkjjogbfjahgaaDoor.Cur

theorem step7 (u x i : Nat) (hi : i ≤ 9) (hu : u < 2 ^ (7 * i)) (hx : x < 256) (h9 : i = 9 → x ≤ 1) :
    put7 (u : Int) (x : Int) i = ((u + x % 128 * 2 ^ (7 * i) : Nat) : Int) ∧
    IntKind.u64.wrap ((u : Int) + shl .u64 (Int.tmod (x : Int) 128) (IntKind.u64.wrap (wrap64 (7 * (i : Int))))) = ((u + x % 128 * 2 ^ (7 * i) : Nat) : Int) ∧
    u + x % 128 * 2 ^ (7 * i) < 2 ^ (7 * (i + 1)) ∧ u + x % 128 * 2 ^ (7 * i) < 18446744073709551616 := by
  have hp9 : 2 ^ (7 * i) ≤ 2 ^ 63 := Nat.pow_le_pow_right (by omega) (by omega)
  have hs : 2 ^ (7 * (i + 1)) = 2 ^ (7 * i) * 128 := by rw [show 7 * (i + 1) = 7 * i + 7 by omega, Nat.pow_add]
  have hxm : x % 128 * 2 ^ (7 * i) ≤ 127 * 2 ^ (7 * i) := Nat.mul_le_mul_right _ (by omega)
  have hA : u + x % 128 * 2 ^ (7 * i) < 2 ^ (7 * (i + 1)) := by rw [hs]; generalize 2 ^ (7 * i) = p at *; generalize x % 128 * p = q at *; omega
  have hB : u + x % 128 * 2 ^ (7 * i) < 18446744073709551616 := by
    by_cases h : i = 9
    · subst h
      have hx1 := h9 rfl
      have e : x % 128 = x := by omega
      rw [e]
      have e63 : (2 : Nat) ^ (7 * 9) = 9223372036854775808 := by decide
      rw [e63] at *
      rcases Nat.le_one_iff_eq_zero_or_eq_one.1 hx1 with rfl | rfl <;> omega
    · have : 2 ^ (7 * (i + 1)) ≤ 2 ^ 63 := Nat.pow_le_pow_right (by omega) (by omega)
      omega
  have hm : x % 128 * 2 ^ (7 * i) < 18446744073709551616 := by omega
  refine ⟨?_, ?_, hA, hB⟩
  · unfold put7
    rw [not128 (x : Int) (by omega) (by omega)]
    have e1 : IntKind.u64.wrap (IntKind.u64.wrap ((x : Int) % 128) * 2 ^ (7 * i)) = ((x % 128 * 2 ^ (7 * i) : Nat) : Int) := by
      have e2 : IntKind.u64.wrap ((x : Int) % 128) = ((x % 128 : Nat) : Int) := by rw [IntKind.wrap_u64]; omega
      have e3 : (((x % 128 : Nat) : Int) * 2 ^ (7 * i)) = ((x % 128 * 2 ^ (7 * i) : Nat) : Int) := by simp
      rw [e2, e3, IntKind.wrap_u64]
      generalize x % 128 * 2 ^ (7 * i) = q at *; omega
    rw [e1]
    exact or_shift u _ _ hu (by generalize x % 128 * 2 ^ (7 * i) = q at *; omega) hm
  · have e0 : Int.tmod (x : Int) 128 = ((x % 128 : Nat) : Int) := by rw [Int.tmod_eq_emod_of_nonneg (by omega)]; omega
    have e1 : IntKind.u64.wrap (wrap64 (7 * (i : Int))) = ((7 * i : Nat) : Int) := by rw [IntKind.wrap_u64]; unfold wrap64; omega
    have e2 : shl .u64 ((x % 128 : Nat) : Int) ((7 * i : Nat) : Int) = ((x % 128 * 2 ^ (7 * i) : Nat) : Int) := by
      show IntKind.u64.wrap (((x % 128 : Nat) : Int) * 2 ^ min ((7 * i : Nat) : Int).toNat IntKind.u64.bits) = _
      rw [Int.toNat_natCast, Nat.min_eq_left (by simp [IntKind.bits]; omega)]
      have e3 : (((x % 128 : Nat) : Int) * 2 ^ (7 * i)) = ((x % 128 * 2 ^ (7 * i) : Nat) : Int) := by simp
      rw [e3, IntKind.wrap_u64]
      generalize x % 128 * 2 ^ (7 * i) = q at *; omega
    rw [e0, e1, e2, IntKind.wrap_u64]
    generalize x % 128 * 2 ^ (7 * i) = q at *; omega

theorem step7' (u x i : Nat) (hi : i ≤ 9) (hu : u < 2 ^ (7 * i)) (hx : x < 256) (h9 : i = 9 → x ≤ 1) : ∃ V : Nat, Aside0 (put7 (u : Int) (x : Int) i = (V : Int) ∧
    IntKind.u64.wrap ((u : Int) + shl .u64 (Int.tmod (x : Int) 128) (IntKind.u64.wrap (wrap64 (7 * (i : Int))))) = (V : Int)) ∧ V < 2 ^ (7 * (i + 1)) ∧ V < 18446744073709551616 :=
  let h := step7 u x i hi hu hx h9
  ⟨_, ⟨⟨h.1, h.2.1⟩⟩, h.2.2.1, h.2.2.2⟩

theorem w7 (i : Nat) (hi : i ≤ 9) : IntKind.u64.wrap (wrap64 (7 * (i : Int))) = ((7 * i : Nat) : Int) := by rw [IntKind.wrap_u64]; unfold wrap64; omega
theorem w1 (i : Nat) (hi : i ≤ 9) : wrap64 ((i : Int) + 1) = ((i + 1 : Nat) : Int) := by unfold wrap64; omega
theorem wx (x : Nat) (hx : x < 256) : IntKind.u64.wrap (x : Int) = (x : Int) := by rw [IntKind.wrap_u64]; omega
theorem bt_str (bs : List Int) (hb : ∀ x ∈ bs, 0 ≤ x ∧ x < 256) (i : Nat) (hi : i < bs.length) : bt (strOfNums bs) (i : Int) = bs[i] := by
  unfold bt
  rw [dif_pos (by rw [size_str, Int.toNat_natCast]; exact hi)]
  have := str_at bs i (by rw [size_str]; exact hi) hi (hb _ (List.getElem_mem hi))
  simpa using this

theorem unf0 : unfI 0 = 0 := by decide
theorem unf_unfI (u : Int) (h0 : 0 ≤ u) (h1 : u < 18446744073709551616) : unf u = unfI u := unf_bits u h0 h1

end Go.Proofs.YtkkjjogbfjahgaaDoor.CodSame
