/- A part of the proofs over script (ScBack): contracts of the program's functions and plain laws. Conditions: those that each theorem states. -/
import Derived.Test.YtkkjjogbfjahgaaDoorSame
import Derived.Test.YtkkjjogbfjahgaaDoorScRead
import Derived.Test.YtkkjjogbfjahgaaDoorPScx22
set_option linter.unusedVariables false
set_option linter.unusedSimpArgs false
/- What is laid is read again: numbers, texts. Commands: clean ones, right ones, their numbers. -/
namespace Go.Proofs.YtkkjjogbfjahgaaDoor.Sc
open Go Go.Proofs Go.RowKit Go.Proofs.CodBytes Go.Proofs.YtkkjjogbfjahgaaDoorW.PrintWords Go.Proofs.YtkkjjogbfjahgaaDoorW.PrintLast Go.Proofs.YtkkjjogbfjahgaaDoorW.PrintMore Go.Proofs.YtkkjjogbfjahgaaDoor.PSc Go.Proofs.YtkkjjogbfjahgaaDoor.CodSame Go.Proofs.YtkkjjogbfjahgaaDoor.Cur

theorem up {α : Type} {f : Nat → Option α} (hm : ∀ k, LeO (f k) (f (k + 1))) {k k' : Nat} {r : α} (h : f k = some r) (hk : k ≤ k') : f k' = some r := by
 induction hk with
 | refl => exact h
 | step _ ih => exact hm _ _ ih

/-- the numbers of an event are of their kinds -/
theorem i64_wrap (v : Int) : I64 (wrap64 v) := by unfold I64 wrap64; omega
def layN (ns : List Int) : List Int := ns.flatMap bytesI
theorem layN_cons (v : Int) (r : List Int) : layN (v :: r) = bytesI v ++ layN r := rfl
theorem layN_append (a b : List Int) : layN (a ++ b) = layN a ++ layN b := by unfold layN; rw [List.flatMap_append]
theorem layN_len : ∀ (ns : List Int), (layN ns).length ≤ 10 * ns.length
 | [] => Nat.le_refl _
 | v :: r => by rw [layN_cons, List.length_append, List.length_cons]; have := bytesI_length v; have := layN_len r; omega
theorem layN_bytes : ∀ (ns : List Int), (∀ v ∈ ns, I64 v) → ∀ x ∈ layN ns, 0 ≤ x ∧ x < 256
 | [], _, x, hx => by simp [layN] at hx
 | v :: r, h, x, hx => by
  rw [layN_cons] at hx
  rcases List.mem_append.1 hx with hx | hx
  ·exact bytesI_bytes v (h v (List.mem_cons_self ..)) x hx
  ·exact layN_bytes r (fun y hy => h y (List.mem_cons_of_mem _ hy)) x hx
theorem pow7 (i : Nat) : (2 : Nat) ^ (7 * (i + 1)) = 128 * 2 ^ (7 * i) := by rw [show 7 * (i + 1) = 7 + 7 * i by omega, Nat.pow_add]
theorem grp_enc (r : List Int) : ∀ (n i : Nat) (u V : Nat), i + n = 9 → u < 2 ^ (7 * i) → u + V * 2 ^ (7 * i) < 18446744073709551616 → (0 < i → 0 < V) →
  grpGo (enc n (V : Int) ++ r) i (u : Int) = (0, ((u + V * 2 ^ (7 * i) : Nat) : Int), r)
 | 0, i, u, V, hi, hu, hU, hz => by
  obtain rfl : i = 9 := by omega
  have hV : V = 1 := by
   have := hz (by omega)
   have e63 : (2 : Nat) ^ (7 * 9) = 9223372036854775808 := by decide
   rw [e63] at hU
   omega
  subst hV
  have h7 := (step7 u 1 9 (by omega) hu (by omega) (fun _ => by omega)).1
  simp only [enc, List.cons_append, List.nil_append, grpGo]
  rw [if_neg (by omega), if_pos (by omega)]
  rw [show ((1 : Nat) : Int) = 1 from rfl] at *
  rw [h7]
 | n + 1, i, u, V, hi, hu, hU, hz => by
  have hi8 : i ≤ 8 := by omega
  by_cases hV : (V : Int) ≥ 128
  ·rw [enc, if_pos hV]
   obtain ⟨X, hX⟩ : ∃ X : Nat, X = V % 128 + 128 := ⟨_, rfl⟩
   have eX : (V : Int) % 128 + 128 = (X : Int) := by omega
   have eD : (V : Int) / 128 = ((V / 128 : Nat) : Int) := by omega
   rw [eX, eD]
   have hX1 : X < 256 := by omega
   have hX2 : 128 ≤ X := by omega
   have hXm : X % 128 = V % 128 := by omega
   have h7 := step7 u X i (by omega) hu hX1 (fun h => by omega)
   rw [hXm] at h7
   rw [List.cons_append, grpGo, if_neg (by omega), if_neg (by omega), h7.1]
   have hsum : u + V % 128 * 2 ^ (7 * i) + V / 128 * 2 ^ (7 * (i + 1)) = u + V * 2 ^ (7 * i) := by
    rw [pow7]
    have e : V = 128 * (V / 128) + V % 128 := (Nat.div_add_mod V 128).symm
    generalize 2 ^ (7 * i) = p
    generalize hq : V / 128 = q at *
    generalize hm : V % 128 = m at *
    rw [e, Nat.add_mul, Nat.mul_assoc, ← Nat.mul_assoc q 128 p, Nat.mul_comm q 128, Nat.mul_assoc]
    omega
   have ih := grp_enc r n (i + 1) (u + V % 128 * 2 ^ (7 * i)) (V / 128) (by omega) h7.2.2.1 (by rw [hsum]; exact hU) (fun _ => by omega)
   rw [ih, hsum]
  ·rw [enc, if_neg hV]
   have h7 := (step7 u V i (by omega) hu (by omega) (fun h => by omega)).1
   simp only [List.cons_append, List.nil_append, grpGo]
   rw [if_neg (by omega), if_pos (by omega), h7, show V % 128 = V by omega]
theorem grp_pre : ∀ (n i : Nat) (u V : Int) (j : Nat), j < (enc n V).length → (grpGo ((enc n V).take j) i u).1 ≠ 0
 | 0, i, u, V, j, hj => by
  simp only [enc, List.length_cons, List.length_nil] at hj
  obtain rfl : j = 0 := by omega
  simp [grpGo]
 | n + 1, i, u, V, j, hj => by
  by_cases hV : V ≥ 128
  ·rw [enc, if_pos hV] at hj ⊢
   cases j with
   | zero => simp [grpGo]
   | succ j =>
    rw [List.take_succ_cons, grpGo]
    split
    ·decide
    ·rw [if_neg (by omega)]
     exact grp_pre n (i + 1) _ (V / 128) j (by simp only [List.length_cons] at hj; omega)
  ·rw [enc, if_neg hV] at hj ⊢
   simp only [List.length_cons, List.length_nil] at hj
   obtain rfl : j = 0 := by omega
   simp [grpGo]
theorem int_back (v : Int) (hv : I64 v) (r : List Int) : intOf (bytesI v ++ r) 0 = (v, r, 0) := by
 have hf := fold_range v hv.1 hv.2
 obtain ⟨V, hV⟩ : ∃ V : Nat, foldI v = (V : Int) := ⟨(foldI v).toNat, by omega⟩
 have h := grp_enc r 9 0 0 V (by omega) (by omega) (by omega) (by omega)
 unfold Cur.intOf bytesI
 rw [if_pos rfl, hV]
 rw [show ((0 : Nat) : Int) = 0 from rfl] at h
 rw [h]
 have e : ((0 + V * 2 ^ (7 * 0) : Nat) : Int) = foldI v := by rw [hV]; simp
 show (unf ((0 + V * 2 ^ (7 * 0) : Nat) : Int), r, (0 : Int)) = _
 rw [e, unf_unfI _ hf.1 hf.2, unf_fold v hv.1 hv.2]
theorem int_cut (v : Int) (j : Nat) (hj : j < (bytesI v).length) : (intOf ((bytesI v).take j) 0).2.2 ≠ 0 := by
 unfold Cur.intOf
 rw [if_pos rfl]
 exact grp_pre 9 0 0 (foldI v) j hj
theorem bytesI_pos (v : Int) : 1 ≤ (bytesI v).length := (enc_length 9 _).2
theorem int_droplast (v : Int) : (intOf (bytesI v).dropLast 0).2.2 ≠ 0 := by
 rw [List.dropLast_eq_take]
 exact int_cut v _ (by have := bytesI_pos v; omega)


theorem layN_pos (ns : List Int) (h : ns ≠ []) : layN ns ≠ [] := by
 cases ns with
 | nil => exact absurd rfl h
 | cons v r =>
  rw [layN_cons]
  intro h0
  have h1 := bytesI_pos v
  have h2 := congrArg List.length h0
  rw [List.length_append, List.length_nil] at h2
  omega
theorem small_back (most : Int) (v : Int) (h0 : 0 ≤ v) (h1 : v ≤ most) (hv : I64 v) (t : List Int) : smallOf most (bytesI v ++ t) 0 = (v, t, 0) := by
 unfold smallOf
 rw [int_back v hv t]
 dsimp only
 rw [if_neg (by omega)]
/-- a text's bytes -/
def textB (bs : List Int) : List Int := bytesI (bs.length : Int) ++ bs
theorem text_back (bs : List Int) (hn : bs.length ≤ 65536) (t : List Int) : textOf (textB bs ++ t) 0 = (bs, t, 0) := by
 unfold textOf textB
 rw [List.append_assoc, small_back 65536 (bs.length : Int) (by omega) (by omega) (by unfold I64; omega)]
 dsimp only
 rw [if_neg (by simp), if_neg (by rw [List.length_append]; omega), Int.toNat_natCast, List.take_left, List.drop_left]
theorem text_cut (bs : List Int) (hn : bs.length ≤ 65536) : (textOf (textB bs).dropLast 0).2.2 ≠ 0 := by
 unfold textOf textB
 by_cases h0 : bs = []
 ·subst h0
  rw [List.append_nil]
  have h := int_droplast (([] : List Int).length : Int)
  have h2 : (smallOf 65536 (bytesI (([] : List Int).length : Int)).dropLast 0).2.2 ≠ 0 := by
   unfold smallOf
   rw [if_neg (fun hh => h hh.1)]; exact h
  dsimp only
  rw [if_pos h2]; exact h2
 ·rw [List.dropLast_append_of_ne_nil h0, small_back 65536 (bs.length : Int) (by omega) (by omega) (by unfold I64; omega)]
  have := List.length_pos_iff.2 h0
  dsimp only
  rw [if_neg (by simp), if_pos (by rw [List.length_dropLast]; omega)]
  decide
theorem put_int_l : ∀ (n k : Nat) (l : List Int) (u : Int), 0 ≤ u → u < 128 ^ (n + 1) → n < k → l.length + n < 140737488355328 → coding_put_int.l0 k l u = some (l ++ enc n u)
 | 0, k, l, u, h0, h1, hk, hl => by
  obtain ⟨k, rfl⟩ : ∃ m, k = m + 1 := ⟨k - 1, by omega⟩
  simp only [coding_put_int.l0]
  rw [if_neg (by omega), if_pos (by omega)]
  simp only [enc]; rw [show u % 256 = u by omega]
 | n + 1, k, l, u, h0, h1, hk, hl => by
  obtain ⟨k, rfl⟩ : ∃ m, k = m + 1 := ⟨k - 1, by omega⟩
  simp only [coding_put_int.l0, enc]
  by_cases h : u ≥ 128
  ·rw [if_pos h, if_pos h, if_pos (by omega)]
   have e : (128 : Int) ^ (n + 1 + 1) = 128 ^ (n + 1) * 128 := by rw [Int.pow_succ]
   rw [e] at h1
   rw [put_int_l n k _ (u / 128) (by omega) (by generalize (128 : Int) ^ (n + 1) = p at *; omega) (by omega) (by simp; omega)]
   rw [or128 _ (by omega) (by omega), show u % 256 % 128 = u % 128 by omega, List.append_assoc]; rfl
  ·rw [if_neg h, if_neg h, if_pos (by omega), show u % 256 = u by omega]
theorem clone_f (bs : List Int) (hm : bs.length < 140737488355328) : slices_Clone_byte_byte.f bs = some bs := by
 unfold slices_Clone_byte_byte.f
 simp only [Option.bind_some, List.length_nil, Nat.zero_add, List.nil_append]
 rw [if_pos hm]
theorem bytes_str (bs : List Int) (hb : ∀ x ∈ bs, 0 ≤ x ∧ x < 256) : bytesOf (strOfNums bs) = bs := by
 unfold bytesOf strOfNums
 simp only [List.map_map]
 refine (List.map_congr_left (fun x hx => ?_)).trans (List.map_id bs)
 have := hb x hx
 simp only [Function.comp, id]
 have e : (UInt8.ofNat x.toNat).toNat = x.toNat := by rw [UInt8.toNat_ofNat']; omega
 rw [e]; omega
theorem str_bytes (a : ByteArray) : strOfNums (bytesOf a) = a := by
 unfold bytesOf strOfNums
 simp only [List.map_map]
 have : (List.map ((fun x : Int => x.toNat.toUInt8) ∘ fun b : UInt8 => (b.toNat : Int)) a.data.toList) = a.data.toList := by
  refine (List.map_congr_left (fun x hx => ?_)).trans (List.map_id _)
  simp [Function.comp]
 rw [this]
theorem bytesOf_in (a : ByteArray) : ∀ x ∈ bytesOf a, 0 ≤ x ∧ x < 256 := by
 intro x hx
 unfold bytesOf at hx
 obtain ⟨b, _, rfl⟩ := List.mem_map.1 hx
 have := b.toNat_lt
 omega
theorem putText_f (k : Nat) (l : List Int) (a : ByteArray) (hk : 10 ≤ k) (ha : a.size ≤ 65536) (hl : l.length < 1000000000) : coding_PutText.f k l a = some (l ++ textB (bytesOf a)) := by
 unfold coding_PutText.f
 have hw : wrap64 (2 * (a.size : Int)) = 2 * (a.size : Int) := by unfold wrap64; omega
 have hF : coding_put_int.f k l (2 * (a.size : Int)) = some (l ++ enc 9 (2 * (a.size : Int))) := put_int_l 9 k l _ (by omega) (by omega) (by omega) (by omega)
 have hlen := (enc_length 9 (2 * (a.size : Int))).1
 rw [clone_f l (by omega), Option.bind_some, hw, hF, Option.bind_some, if_pos (by rw [List.length_append]; omega)]
 unfold textB bytesI
 rw [bytesOf_length]
 have : foldI (a.size : Int) = 2 * (a.size : Int) := by unfold foldI; rw [if_neg (by omega)]
 rw [this, List.append_assoc]
end Go.Proofs.YtkkjjogbfjahgaaDoor.Sc

set_option linter.unusedVariables false
set_option linter.unusedSimpArgs false
/- Commands in plain words: clean ones, right ones, their numbers, their bytes; read again. -/
namespace Go.Proofs.YtkkjjogbfjahgaaDoor.Sc
open Go Go.Proofs Go.RowKit Go.Proofs.CodBytes Go.Proofs.YtkkjjogbfjahgaaDoorW.PrintWords Go.Proofs.YtkkjjogbfjahgaaDoorW.PrintLast Go.Proofs.YtkkjjogbfjahgaaDoorW.PrintMore Go.Proofs.YtkkjjogbfjahgaaDoor.PSc Go.Proofs.YtkkjjogbfjahgaaDoor.CodSame Go.Proofs.YtkkjjogbfjahgaaDoor.Cur

def toT (x : S39) : Int × Int × Int × Int × Int × Int × Int × Int × Int × Int × Int × Bool := (x.f0, x.f1, x.f2, x.f3, x.f4, x.f5, x.f6, x.f7, x.f8, x.f9, x.f10, x.f11)
def cleanC (x : S39) : S39 :=
 if x.f0 = 1 then ⟨x.f0, 0, x.f2, x.f3, x.f4, x.f5, x.f6, 0, 0, x.f9, 0, x.f11⟩ else
 if x.f0 = 2 then ⟨x.f0, x.f1, 0, 0, 0, 0, 0, 0, 0, 0, 0, false⟩ else
 if x.f0 = 3 then ⟨x.f0, x.f1, 0, 0, 0, 0, 0, 0, 0, 0, 0, false⟩ else
 if x.f0 = 4 then ⟨x.f0, x.f1, 0, 0, 0, 0, 0, 0, 0, 0, 0, false⟩ else
 if x.f0 = 12 then ⟨x.f0, x.f1, 0, 0, 0, 0, 0, 0, 0, 0, 0, false⟩ else
 if x.f0 = 5 then ⟨x.f0, x.f1, 0, 0, 0, 0, 0, 0, 0, x.f9, 0, false⟩ else
 if x.f0 = 6 then ⟨x.f0, 0, 0, x.f3, x.f4, 0, 0, 0, 0, x.f9, x.f10, false⟩ else
 if x.f0 = 7 then ⟨x.f0, x.f1, 0, x.f3, 0, 0, 0, 0, 0, 0, 0, false⟩ else
 if x.f0 = 8 then ⟨x.f0, 0, 0, x.f3, x.f4, 0, 0, 0, 0, 0, 0, false⟩ else
 if x.f0 = 9 then ⟨x.f0, 0, 0, x.f3, 0, 0, 0, 0, 0, 0, 0, false⟩ else
 if x.f0 = 10 then ⟨x.f0, 0, 0, 0, 0, 0, 0, 0, 0, x.f9, 0, false⟩ else
 if x.f0 = 11 then ⟨x.f0, 0, 0, x.f3, 0, 0, 0, x.f7, x.f8, 0, 0, false⟩ else z39
theorem clean_f (k : Nat) (x : S39) : cmd_Command_Clean.f (k + 1) x.f0 x.f1 x.f2 x.f3 x.f4 x.f5 x.f6 x.f7 x.f8 x.f9 x.f10 x.f11 = some (toT (cleanC x)) := by
 unfold cleanC
 by_cases h1 : x.f0 = 1
 ·simp [h1, cmd_Command_Clean.f, cmd_Command_Clean.j0, toT]
 by_cases h2 : x.f0 = 2
 ·simp [h2, cmd_Command_Clean.f, cmd_Command_Clean.j0, toT]
 by_cases h3 : x.f0 = 3
 ·simp [h3, cmd_Command_Clean.f, cmd_Command_Clean.j0, toT]
 by_cases h4 : x.f0 = 4
 ·simp [h4, cmd_Command_Clean.f, cmd_Command_Clean.j0, toT]
 by_cases h12 : x.f0 = 12
 ·simp [h12, cmd_Command_Clean.f, cmd_Command_Clean.j0, toT]
 by_cases h5 : x.f0 = 5
 ·simp [h5, cmd_Command_Clean.f, cmd_Command_Clean.j0, toT]
 by_cases h6 : x.f0 = 6
 ·simp [h6, cmd_Command_Clean.f, cmd_Command_Clean.j0, toT]
 by_cases h7 : x.f0 = 7
 ·simp [h7, cmd_Command_Clean.f, cmd_Command_Clean.j0, toT]
 by_cases h8 : x.f0 = 8
 ·simp [h8, cmd_Command_Clean.f, cmd_Command_Clean.j0, toT]
 by_cases h9 : x.f0 = 9
 ·simp [h9, cmd_Command_Clean.f, cmd_Command_Clean.j0, toT]
 by_cases h10 : x.f0 = 10
 ·simp [h10, cmd_Command_Clean.f, cmd_Command_Clean.j0, toT]
 by_cases h11 : x.f0 = 11
 ·simp [h11, cmd_Command_Clean.f, cmd_Command_Clean.j0, toT]
 simp [h1, h2, h3, h4, h12, h5, h6, h7, h8, h9, h10, h11, cmd_Command_Clean.f, cmd_Command_Clean.j0, toT, z39]
theorem clean_clean (x : S39) : cleanC (cleanC x) = cleanC x := by
 have h : ∀ y : S39, y = x → cleanC (cleanC y) = cleanC y := by
  intro y hy
  unfold cleanC
  by_cases h1 : y.f0 = 1
  ·simp [h1]
  by_cases h2 : y.f0 = 2
  ·simp [h2]
  by_cases h3 : y.f0 = 3
  ·simp [h3]
  by_cases h4 : y.f0 = 4
  ·simp [h4]
  by_cases h12 : y.f0 = 12
  ·simp [h12]
  by_cases h5 : y.f0 = 5
  ·simp [h5]
  by_cases h6 : y.f0 = 6
  ·simp [h6]
  by_cases h7 : y.f0 = 7
  ·simp [h7]
  by_cases h8 : y.f0 = 8
  ·simp [h8]
  by_cases h9 : y.f0 = 9
  ·simp [h9]
  by_cases h10 : y.f0 = 10
  ·simp [h10]
  by_cases h11 : y.f0 = 11
  ·simp [h11]
  simp [h1, h2, h3, h4, h12, h5, h6, h7, h8, h9, h10, h11, z39]
 exact h x rfl
def inR (a b c : Int) : Bool := decide (b ≤ a ∧ a ≤ c)
theorem within_f (a b c : Int) : cmd_within.f a b c = some (inR a b c) := by
 unfold cmd_within.f inR
 by_cases h : a ≥ b
 ·rw [if_pos h]; congr 1; exact decide_eq_decide.2 ⟨fun h2 => ⟨h, h2⟩, fun h2 => h2.2⟩
 ·rw [if_neg h, decide_eq_false (fun h2 => h h2.1)]
theorem andB (a b : Bool) : (if a = true then some b else some false) = some (a && b) := by cases a <;> rfl
theorem geLt (a b c : Int) : (if a ≥ b then some (decide (a < c)) else some false) = some (inR a b (c - 1)) := by
 unfold inR
 by_cases h : a ≥ b
 ·rw [if_pos h]; congr 1; exact decide_eq_decide.2 ⟨fun h2 => ⟨h, by omega⟩, fun h2 => by omega⟩
 ·rw [if_neg h, decide_eq_false (fun h2 => h h2.1)]
theorem geLe (a b c : Int) : (if a ≥ b then some (decide (a ≤ c)) else some false) = some (inR a b c) := within_f a b c
def rightC (x : S39) : Bool :=
 if x.f0 = 1 then inR x.f2 1 16 && (inR x.f3 0 3 && (inR x.f4 1 64 && (inR x.f9 1 1048576 && (inR x.f5 (-100) 100 && inR x.f6 0 1073741824)))) else
 if x.f0 = 2 then inR x.f1 1 1073741824 else
 if x.f0 = 3 then inR x.f1 1 1073741824 else
 if x.f0 = 4 then inR x.f1 1 1073741824 else
 if x.f0 = 12 then inR x.f1 1 1073741824 else
 if x.f0 = 5 then inR x.f1 1 1073741824 && inR x.f9 1 1048576 else
 if x.f0 = 6 then inR x.f3 0 3 && (inR x.f4 1 64 && (inR x.f9 0 (1099511627776 - 1) && inR x.f10 1 (1099511627776 - 1))) else
 if x.f0 = 7 then inR x.f3 0 3 && inR x.f1 1 1073741824 else
 if x.f0 = 8 then inR x.f3 0 3 && inR x.f4 1 64 else
 if x.f0 = 9 then inR x.f3 0 3 else
 if x.f0 = 10 then inR x.f9 0 (1099511627776 - 1) else
 if x.f0 = 11 then inR x.f3 0 3 && (inR x.f7 0 63 && inR x.f8 0 4) else false
theorem right_f (k : Nat) (x : S39) : cmd_Command_Right.f (k + 1) x.f0 x.f1 x.f2 x.f3 x.f4 x.f5 x.f6 x.f7 x.f8 x.f9 x.f10 x.f11 = some (rightC x) := by
 unfold rightC
 by_cases h1 : x.f0 = 1
 ·simp only [h1, cmd_Command_Right.f, cmd_Command_Right.j0, cmd_Command_id.f, cmd_Command_part.f, cmd_Command_width.f, cmd_Command_limit.f, cmd_Command_time.f, within_f, Option.bind_some, andB, geLt, geLe]
  simp
 by_cases h2 : x.f0 = 2
 ·simp only [h2, cmd_Command_Right.f, cmd_Command_Right.j0, cmd_Command_id.f, cmd_Command_part.f, cmd_Command_width.f, cmd_Command_limit.f, cmd_Command_time.f, within_f, Option.bind_some, andB, geLt, geLe]
  simp
 by_cases h3 : x.f0 = 3
 ·simp only [h3, cmd_Command_Right.f, cmd_Command_Right.j0, cmd_Command_id.f, cmd_Command_part.f, cmd_Command_width.f, cmd_Command_limit.f, cmd_Command_time.f, within_f, Option.bind_some, andB, geLt, geLe]
  simp
 by_cases h4 : x.f0 = 4
 ·simp only [h4, cmd_Command_Right.f, cmd_Command_Right.j0, cmd_Command_id.f, cmd_Command_part.f, cmd_Command_width.f, cmd_Command_limit.f, cmd_Command_time.f, within_f, Option.bind_some, andB, geLt, geLe]
  simp
 by_cases h12 : x.f0 = 12
 ·simp only [h12, cmd_Command_Right.f, cmd_Command_Right.j0, cmd_Command_id.f, cmd_Command_part.f, cmd_Command_width.f, cmd_Command_limit.f, cmd_Command_time.f, within_f, Option.bind_some, andB, geLt, geLe]
  simp
 by_cases h5 : x.f0 = 5
 ·simp only [h5, cmd_Command_Right.f, cmd_Command_Right.j0, cmd_Command_id.f, cmd_Command_part.f, cmd_Command_width.f, cmd_Command_limit.f, cmd_Command_time.f, within_f, Option.bind_some, andB, geLt, geLe]
  simp
 by_cases h6 : x.f0 = 6
 ·simp only [h6, cmd_Command_Right.f, cmd_Command_Right.j0, cmd_Command_id.f, cmd_Command_part.f, cmd_Command_width.f, cmd_Command_limit.f, cmd_Command_time.f, within_f, Option.bind_some, andB, geLt, geLe]
  simp
 by_cases h7 : x.f0 = 7
 ·simp only [h7, cmd_Command_Right.f, cmd_Command_Right.j0, cmd_Command_id.f, cmd_Command_part.f, cmd_Command_width.f, cmd_Command_limit.f, cmd_Command_time.f, within_f, Option.bind_some, andB, geLt, geLe]
  simp
 by_cases h8 : x.f0 = 8
 ·simp only [h8, cmd_Command_Right.f, cmd_Command_Right.j0, cmd_Command_id.f, cmd_Command_part.f, cmd_Command_width.f, cmd_Command_limit.f, cmd_Command_time.f, within_f, Option.bind_some, andB, geLt, geLe]
  simp
 by_cases h9 : x.f0 = 9
 ·simp only [h9, cmd_Command_Right.f, cmd_Command_Right.j0, cmd_Command_id.f, cmd_Command_part.f, cmd_Command_width.f, cmd_Command_limit.f, cmd_Command_time.f, within_f, Option.bind_some, andB, geLt, geLe]
  simp
 by_cases h10 : x.f0 = 10
 ·simp only [h10, cmd_Command_Right.f, cmd_Command_Right.j0, cmd_Command_id.f, cmd_Command_part.f, cmd_Command_width.f, cmd_Command_limit.f, cmd_Command_time.f, within_f, Option.bind_some, andB, geLt, geLe]
  simp
 by_cases h11 : x.f0 = 11
 ·simp only [h11, cmd_Command_Right.f, cmd_Command_Right.j0, cmd_Command_id.f, cmd_Command_part.f, cmd_Command_width.f, cmd_Command_limit.f, cmd_Command_time.f, within_f, Option.bind_some, andB, geLt, geLe]
  simp
 simp [h1, h2, h3, h4, h12, h5, h6, h7, h8, h9, h10, h11, cmd_Command_Right.f, cmd_Command_Right.j0]
theorem right_clean (x : S39) : rightC (cleanC x) = rightC x := by
 have h : ∀ y : S39, y = x → rightC (cleanC y) = rightC y := by
  intro y hy
  unfold cleanC rightC
  by_cases h1 : y.f0 = 1
  ·simp [h1]
  by_cases h2 : y.f0 = 2
  ·simp [h2]
  by_cases h3 : y.f0 = 3
  ·simp [h3]
  by_cases h4 : y.f0 = 4
  ·simp [h4]
  by_cases h12 : y.f0 = 12
  ·simp [h12]
  by_cases h5 : y.f0 = 5
  ·simp [h5]
  by_cases h6 : y.f0 = 6
  ·simp [h6]
  by_cases h7 : y.f0 = 7
  ·simp [h7]
  by_cases h8 : y.f0 = 8
  ·simp [h8]
  by_cases h9 : y.f0 = 9
  ·simp [h9]
  by_cases h10 : y.f0 = 10
  ·simp [h10]
  by_cases h11 : y.f0 = 11
  ·simp [h11]
  simp [h1, h2, h3, h4, h12, h5, h6, h7, h8, h9, h10, h11, z39]
 exact h x rfl
/-- a command's numbers -/
def flagI (b : Bool) : Int := if b = true then 1 else 0
def numsC (x : S39) : List Int := [x.f0, x.f1, x.f2, x.f3, x.f4, x.f5, x.f6, x.f7, x.f8, x.f9, x.f10, flagI x.f11]
theorem numbers_f (x : S39) : cmd_Command_numbers.f x.f0 x.f1 x.f2 x.f3 x.f4 x.f5 x.f6 x.f7 x.f8 x.f9 x.f10 x.f11 = some (x.f0, x.f1, x.f2, x.f3, x.f4, x.f5, x.f6, x.f7, x.f8, x.f9, x.f10, flagI x.f11) := by
 unfold cmd_Command_numbers.f cmd_flag.f flagI
 cases x.f11 <;> rfl
theorem cmdOf_nums (x : S39) : cmdOf (numsC x) = x := by
 unfold cmdOf numsC flagI
 cases x with
 | mk a b c d e f g h i j k l => cases l <;> rfl
def Cmd64 (x : S39) : Prop := I64 x.f0 ∧ I64 x.f1 ∧ I64 x.f2 ∧ I64 x.f3 ∧ I64 x.f4 ∧ I64 x.f5 ∧ I64 x.f6 ∧ I64 x.f7 ∧ I64 x.f8 ∧ I64 x.f9 ∧ I64 x.f10
theorem ite_P {α : Type} {P : α → Prop} {c : Prop} [Decidable c] {a b : α} (ha : P a) (hb : P b) : P (if c then a else b) := by split <;> assumption
theorem Cmd64.clean {x : S39} (h : Cmd64 x) : Cmd64 (cleanC x) := by
 obtain ⟨h0, h1, h2, h3, h4, h5, h6, h7, h8, h9, h10⟩ := h
 have hz : I64 0 := by unfold I64; omega
 unfold cleanC
 refine ite_P (P := Cmd64) ⟨h0, hz, h2, h3, h4, h5, h6, hz, hz, h9, hz⟩ ?_
 refine ite_P (P := Cmd64) ⟨h0, h1, hz, hz, hz, hz, hz, hz, hz, hz, hz⟩ ?_
 refine ite_P (P := Cmd64) ⟨h0, h1, hz, hz, hz, hz, hz, hz, hz, hz, hz⟩ ?_
 refine ite_P (P := Cmd64) ⟨h0, h1, hz, hz, hz, hz, hz, hz, hz, hz, hz⟩ ?_
 refine ite_P (P := Cmd64) ⟨h0, h1, hz, hz, hz, hz, hz, hz, hz, hz, hz⟩ ?_
 refine ite_P (P := Cmd64) ⟨h0, h1, hz, hz, hz, hz, hz, hz, hz, h9, hz⟩ ?_
 refine ite_P (P := Cmd64) ⟨h0, hz, hz, h3, h4, hz, hz, hz, hz, h9, h10⟩ ?_
 refine ite_P (P := Cmd64) ⟨h0, h1, hz, h3, hz, hz, hz, hz, hz, hz, hz⟩ ?_
 refine ite_P (P := Cmd64) ⟨h0, hz, hz, h3, h4, hz, hz, hz, hz, hz, hz⟩ ?_
 refine ite_P (P := Cmd64) ⟨h0, hz, hz, h3, hz, hz, hz, hz, hz, hz, hz⟩ ?_
 refine ite_P (P := Cmd64) ⟨h0, hz, hz, hz, hz, hz, hz, hz, hz, h9, hz⟩ ?_
 refine ite_P (P := Cmd64) ⟨h0, hz, hz, h3, hz, hz, hz, h7, h8, hz, hz⟩ ?_
 exact ⟨hz, hz, hz, hz, hz, hz, hz, hz, hz, hz, hz⟩
theorem Cmd64.nums {x : S39} (h : Cmd64 x) : ∀ v ∈ numsC x, I64 v := by
 obtain ⟨h0, h1, h2, h3, h4, h5, h6, h7, h8, h9, h10⟩ := h
 intro v hv
 simp only [numsC, List.mem_cons, List.not_mem_nil, or_false] at hv
 have hf : I64 (flagI x.f11) := by unfold flagI I64; split <;> omega
 rcases hv with rfl | rfl | rfl | rfl | rfl | rfl | rfl | rfl | rfl | rfl | rfl | rfl <;> assumption
theorem ints_back : ∀ (ns : List Int) (t : List Int), (∀ v ∈ ns, I64 v) → intsN ns.length (layN ns ++ t) 0 = (ns, t, 0)
 | [], t, _ => rfl
 | v :: r, t, h => by
  rw [List.length_cons, layN_cons, List.append_assoc, intsN_step (int_back v (h v (List.mem_cons_self ..)) _), ints_back r t (fun u hu => h u (List.mem_cons_of_mem _ hu))]
theorem ints_cut : ∀ (ns : List Int), ns ≠ [] → (∀ v ∈ ns, I64 v) → (intsN ns.length (layN ns).dropLast 0).2.2 ≠ 0
 | [], hn, _ => absurd rfl hn
 | [v], _, h => by
  have hd := int_droplast v
  obtain ⟨⟨a, b, c⟩, hx⟩ : ∃ p, intOf (bytesI v).dropLast 0 = p := ⟨_, rfl⟩
  rw [hx] at hd
  rw [layN_cons, show layN [] = [] from rfl, List.append_nil, show [v].length = 0 + 1 from rfl, intsN_step hx]
  exact hd
 | v :: u :: r, _, h => by
  have hne : layN (u :: r) ≠ [] := layN_pos _ (by simp)
  rw [List.length_cons, layN_cons, List.dropLast_append_of_ne_nil hne, intsN_step (int_back v (h v (List.mem_cons_self ..)) _)]
  exact ints_cut (u :: r) (by simp) (fun y hy => h y (List.mem_cons_of_mem _ hy))
/-- what cmd.Read makes of a clean command's numbers -/
theorem cmdRead_back (k : Nat) (x : S39) (h : Cmd64 x) (hc : cleanC x = x) (hr : rightC x = true) : cmd_Read.f (k + 1) (layN (numsC x)) = some (x, 0) := by
 have hI : intsN 12 (layN (numsC x)) 0 = (numsC x, [], 0) := by
  have := ints_back (numsC x) [] h.nums
  rw [List.append_nil] at this
  exact this
 unfold cmd_Read.f
 rw [hI]
 simp only [cmdOf_nums, right_f, Option.bind_some, clean_f, hc, toT, numbers_f, hr]
 rw [show endOf [] 0 = 0 from rfl]
 simp [numsC]
theorem cmdRead_some (k : Nat) (l : List Int) : ∃ x e, cmd_Read.f (k + 1) l = some (x, e) := by
 unfold cmd_Read.f
 rw [right_f, Option.bind_some, clean_f, Option.bind_some]
 simp only [toT]
 rw [numbers_f, Option.bind_some]
 split
 ·exact ⟨_, _, rfl⟩
 ·exact ⟨_, _, rfl⟩
end Go.Proofs.YtkkjjogbfjahgaaDoor.Sc
