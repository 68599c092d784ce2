/- A part of the proofs over trace (TrDraws): contracts of the program's functions and plain laws. Conditions: those that each theorem states. -/
import Derived.Test.YtdpomgfibjlehaaDoorTrCells
import Derived.Test.YtdpomgfibjlehaaDoorTrTamed
import Derived.Test.YtdpomgfibjlehaaDoorPTrx21
import Derived.Test.YtdpomgfibjlehaaDoorPTrx14
import Derived.Test.YtdpomgfibjlehaaDoorTrPlain
set_option linter.unusedVariables false
set_option linter.unusedSimpArgs false
/- The reference's rows and its drawing are the program's. -/
namespace Go.Proofs.YtdpomgfibjlehaaDoor.Tr
open Go Go.Proofs Go.RowKit Go.Lib Go.Proofs.CodBytes Go.Proofs.BitsPlain Go.Proofs.YtdpomgfibjlehaaDoorW.PrintWords Go.Proofs.YtdpomgfibjlehaaDoorW.PrintLast Go.Proofs.YtdpomgfibjlehaaDoorW.PrintMore Go.Proofs.YtdpomgfibjlehaaDoor.PTr Go.Proofs.YtdpomgfibjlehaaDoor.CodSame Go.Proofs.YtdpomgfibjlehaaDoor.Cur

def ints (l : List Nat) : List Int := l.map fun i : Nat => (i : Int)
theorem ints_length (l : List Nat) : (ints l).length = l.length := by simp [ints]
theorem ints_rd (l : List Nat) (i : Nat) (hi : i < l.length) : rd (ints l) (i : Int) = (l[i] : Int) := by
  unfold rd ints; rw [Int.toNat_natCast, List.getD_eq_getElem?_getD, List.getElem?_map, List.getElem?_eq_getElem hi]; rfl
theorem lowsFrom_snoc (x n : Nat) : lowsFrom x 0 (n + 1) = lowsFrom x 0 n ++ if x.testBit n then [n] else [] := by
  unfold lowsFrom
  rw [List.range'_concat, List.filter_append]
  congr 1
  simp only [Nat.zero_add, Nat.one_mul]
  cases h : x.testBit n <;> simp [h]
theorem lowsFrom_len (x a n : Nat) : (lowsFrom x a n).length ≤ n := by
  unfold lowsFrom
  have := List.length_filter_le (fun i => x.testBit i) (List.range' a n)
  rwa [List.length_range'] at this
theorem testBit_div (x n : Nat) : (x.testBit n = true) ↔ x / 2 ^ n % 2 = 1 := by
  rw [Nat.testBit_eq_decide_div_mod_eq]; simp
theorem wr (a : Int) (h0 : 0 ≤ a) (h1 : a < 18446744073709551616) : IntKind.u64.wrap a = a := by rw [IntKind.wrap_u64]; omega
theorem w64 (a : Int) (h0 : 0 ≤ a) (h1 : a < 9223372036854775807) : wrap64 (a + 1) = a + 1 := by unfold wrap64; omega
theorem of_l0 (x : Nat) (hx : x < 18446744073709551616) : ∀ (m k n : Nat), n + m = 64 → m < k →
    berthingref07_Of.l0 k ((x / 2 ^ n : Nat) : Int) (ints (lowsFrom x 0 n)) (n : Int) = some (ints (lows x))
  | 0, k, n, h, hk => by
    obtain ⟨k, rfl⟩ : ∃ j, k = j + 1 := ⟨k - 1, by omega⟩
    obtain rfl : n = 64 := by omega
    rw [berthingref07_Of.l0, if_neg (by omega)]; rfl
  | m + 1, k, n, h, hk => by
    obtain ⟨k, rfl⟩ : ∃ j, k = j + 1 := ⟨k - 1, by omega⟩
    rw [berthingref07_Of.l0, if_pos (by omega)]
    have hy : x / 2 ^ n ≤ x := Nat.div_le_self _ _
    have t1 : Int.tdiv ((x / 2 ^ n : Nat) : Int) 2 = ((x / 2 ^ (n + 1) : Nat) : Int) := by
      rw [Int.tdiv_eq_ediv_of_nonneg (Int.natCast_nonneg _), Nat.pow_succ, ← Nat.div_div_eq_div_mul]; rfl
    have t2 : Int.tmod ((x / 2 ^ n : Nat) : Int) 2 = ((x / 2 ^ n % 2 : Nat) : Int) := by
      rw [Int.tmod_eq_emod_of_nonneg (Int.natCast_nonneg _)]; rfl
    have hz : x / 2 ^ (n + 1) ≤ x := Nat.div_le_self _ _
    have hn1 : ((n : Int) + 1) = ((n + 1 : Nat) : Int) := by omega
    have hln := lowsFrom_len x 0 n
    rw [t1, t2, wr _ (Int.natCast_nonneg _) (by generalize x / 2 ^ (n + 1) = q at *; omega), w64 _ (by omega) (by omega), hn1]
    clear t1 t2
    have hs := lowsFrom_snoc x n
    have hb := testBit_div x n
    by_cases h1 : x / 2 ^ n % 2 = 1
    · rw [if_pos (by omega), if_pos (by rw [ints_length]; omega)]
      have e : ints (lowsFrom x 0 n) ++ [(n : Int)] = ints (lowsFrom x 0 (n + 1)) := by rw [hs, if_pos (hb.2 h1)]; simp [ints]
      rw [e]
      exact of_l0 x hx m k (n + 1) (by omega) (by omega)
    · rw [if_neg (by omega)]
      have e : ints (lowsFrom x 0 n) = ints (lowsFrom x 0 (n + 1)) := by rw [hs, if_neg (fun h => h1 (hb.1 h))]; simp [ints]
      rw [e]
      exact of_l0 x hx m k (n + 1) (by omega) (by omega)
theorem of_f (k x : Nat) (hx : x < 18446744073709551616) (hk : 65 ≤ k) : berthingref07_Of.f k (x : Int) = some (ints (lows x)) := by
  have := of_l0 x hx 64 k 0 (by omega) (by omega)
  rw [Nat.pow_zero, Nat.div_one] at this
  exact this
theorem rhas_l0 (L : List Nat) (hlen : L.length ≤ 64) (v : Nat) : ∀ (m k i : Nat), i + m = L.length → m < k →
    berthingref07_List_Has.l0 k (ints L) (v : Int) (i : Int) = some (decide (v ∈ L.drop i))
  | 0, k, i, h, hk => by
    obtain ⟨k, rfl⟩ : ∃ j, k = j + 1 := ⟨k - 1, by omega⟩
    rw [berthingref07_List_Has.l0, if_neg (by rw [ints_length]; omega), show L.drop i = [] from List.drop_of_length_le (by omega)]; simp
  | m + 1, k, i, h, hk => by
    obtain ⟨k, rfl⟩ : ∃ j, k = j + 1 := ⟨k - 1, by omega⟩
    have hi : i < L.length := by omega
    have hd : L.drop i = L[i] :: L.drop (i + 1) := List.drop_eq_getElem_cons hi
    have hrd := ints_rd L i hi
    rw [berthingref07_List_Has.l0, if_pos (by rw [ints_length]; omega), if_pos (by omega), hrd, hd]
    clear hrd
    by_cases e : L[i] = v
    · rw [if_pos (by rw [e])]; simp [e]
    · rw [if_neg (by omega), w64 _ (by omega) (by omega), show ((i : Int) + 1) = ((i + 1 : Nat) : Int) by omega, rhas_l0 L hlen v m k (i + 1) (by omega) (by omega)]
      congr 1
      rw [decide_eq_decide, List.mem_cons]
      constructor
      · exact .inr
      · rintro (q | q)
        · exact absurd q.symm e
        · exact q
theorem rhas_f (k : Nat) (L : List Nat) (hlen : L.length ≤ 64) (v : Nat) (hk : 65 ≤ k) : berthingref07_List_Has.f k (ints L) (v : Int) = some (decide (v ∈ L)) := by
  have := rhas_l0 L hlen v L.length k 0 (by omega) (by omega)
  rwa [List.drop_zero] at this
/-- the reference's set has a node where the program's has it -/
theorem of_has (u : Int) (hu : 0 ≤ u ∧ u < 18446744073709551616) (v : Nat) (hv : v < 64) : ∃ L, ∀ k : Nat, 65 ≤ k → berthingref07_Of.f k u = some L ∧ berthingref07_List_Has.f k L (v : Int) = some (hasB u (v : Int)) := by
  obtain ⟨x, rfl⟩ : ∃ x : Nat, u = (x : Int) := ⟨u.toNat, by omega⟩
  have hx : x < 18446744073709551616 := by omega
  refine ⟨ints (lows x), fun k hk => ⟨of_f k x hx hk, ?_⟩⟩
  rw [rhas_f k (lows x) (lowsFrom_len x 0 64) v hk, has_bit x v hx hv]
  congr 1
  rw [Bool.eq_iff_iff, decide_eq_true_iff, mem_lows]
  exact ⟨fun h => h.2, fun h => ⟨hv, h⟩⟩

/-! ### rows -/
def rowS (r : TRow) : S85 := ⟨r.job, r.part, r.nodes, ⟨r.fr, r.to_⟩, r.en⟩
theorem rd85 (xs : List TRow) (i : Nat) (hi : i < xs.length) : rd_T85 (xs.map rowS) (i : Int) = rowS xs[i] := by
  unfold rd_T85; rw [Int.toNat_natCast, List.getD_eq_getElem?_getD, List.getElem?_eq_getElem (by simpa using hi), List.getElem_map]; rfl
theorem idxI_cons (p : S46 → Bool) (x : S46) (t : List S46) : idxI p (x :: t) = if p x = true then 0 else if idxI p t < 0 then -1 else idxI p t + 1 := by
  unfold idxI
  rw [List.any_cons, List.findIdx_cons]
  cases hx : p x with
  | true => simp
  | false =>
    simp only [Bool.false_or, Bool.false_eq_true, if_false, cond_false]
    by_cases h : t.any p = true
    · rw [if_pos h, if_pos h, if_neg (by omega)]; omega
    · rw [if_neg h, if_neg h, if_pos (by omega)]
/-- where a row ends, looked for from m on -/
def endAt (l : List S46) (x : S46) (m : Nat) : Int × Int :=
  if 0 ≤ idxI (endsB x) (l.drop m) then ((rd_T46 l ((m : Int) + idxI (endsB x) (l.drop m))).f4, (m : Int) + idxI (endsB x) (l.drop m)) else (1099511627776, -1)
theorem endAt_end (l : List S46) (x : S46) (m : Nat) (h : l.length ≤ m) : endAt l x m = (1099511627776, -1) := by
  unfold endAt
  rw [List.drop_of_length_le h]; rfl
theorem endAt_step (l : List S46) (x : S46) (m : Nat) (h : m < l.length) : endAt l x m = if endsB x l[m] = true then (l[m].f4, (m : Int)) else endAt l x (m + 1) := by
  unfold endAt
  rw [List.drop_eq_getElem_cons h, idxI_cons]
  have hr := idxI_range (endsB x) (l.drop (m + 1))
  generalize idxI (endsB x) (l.drop (m + 1)) = q at hr
  by_cases c : endsB x l[m] = true
  · rw [if_pos c, if_pos c, if_pos (by omega), Int.add_zero, rd46 l m h]
  · rw [if_neg c, if_neg c]
    by_cases c2 : q < 0
    · rw [if_pos c2, if_neg (by omega), if_neg (by omega)]
    · rw [if_neg c2, if_pos (by omega), if_pos (by omega), show (m : Int) + (q + 1) = ((m + 1 : Nat) : Int) + q by omega]
theorem rowAt_eq (l : List S46) (i : Nat) (x : S46) : rowAt l i x = ⟨x.f0, x.f1, x.f3, x.f4, (endAt l x (i + 1)).1, (endAt l x (i + 1)).2⟩ := by
  unfold rowAt endAt
  rw [show ((i + 1 : Nat) : Int) = (i : Int) + 1 by omega]
  split <;> rfl
theorem rows_l1 (l : List S46) (hn : l.length < 100000) (i : Nat) (hi : i < l.length) (out : List S85) (ho : out.length < 1000000) (R : Option (List S85)) (K : Nat)
    (HN : Aside0 (∀ k : Nat, K ≤ k → berthingref32_Rows.l0 k (l.map toR) (out ++ [rowS (rowAt l i l[i])]) ((i + 1 : Nat) : Int) = R)) : ∀ (d j k : Nat), j = i + d → j < l.length → K + d + 1 ≤ k →
    berthingref32_Rows.l1 k (l.map toR) out (i : Int) (j : Int) l[i].f0 l[i].f1 l[i].f3 l[i].f4 (endAt l l[i] (j + 1)).1 (endAt l l[i] (j + 1)).2 = R
  | 0, j, k, hj, hjl, hk => by
    obtain ⟨k, rfl⟩ : ∃ m, k = m + 1 := ⟨k - 1, by omega⟩
    obtain rfl : j = i := by omega
    have c1 : ¬((j : Int) > (j : Int)) := by omega
    have c2 : out.length < 2932031007402 := by omega
    have hh := HN.out k (by omega)
    rw [rowAt_eq] at hh
    rw [berthingref32_Rows.l1, if_neg c1, if_pos c2, wrap_nat j (by omega)]
    exact hh
  | d + 1, j, k, hj, hjl, hk => by
    obtain ⟨k, rfl⟩ : ∃ m, k = m + 1 := ⟨k - 1, by omega⟩
    obtain ⟨j, rfl⟩ : ∃ m, j = m + 1 := ⟨j - 1, by omega⟩
    have ih := rows_l1 l hn i hi out ho R K HN d j k (by omega) (by omega) (by omega)
    have he := endAt_step l l[i] (j + 1) hjl
    have c1 : ((j + 1 : Nat) : Int) > (i : Int) := by omega
    have c2 : (0 : Int) ≤ ((j + 1 : Nat) : Int) := by omega
    have c3 : ((j + 1 : Nat) : Int) < ((l.map toR).length : Int) := by rw [List.length_map]; omega
    have ew : wrap64 (((j + 1 : Nat) : Int) - 1) = (j : Int) := by unfold wrap64; omega
    have er := rd35 l (j + 1) hjl
    rw [he] at ih
    rw [berthingref32_Rows.l1, if_pos c1, if_pos c2, if_pos c3, er, ew]
    unfold endsB at ih
    show (if l[j + 1].f5 = true then (if l[j + 1].f0 = l[i].f0 then (if l[j + 1].f1 = l[i].f1 then _ else _) else _) else _) = R
    by_cases h5 : l[j + 1].f5 = true
    · rw [if_pos h5]
      by_cases h0 : l[j + 1].f0 = l[i].f0
      · rw [if_pos h0]
        by_cases h1 : l[j + 1].f1 = l[i].f1
        · rw [if_pos h1]
          rw [h5, h0, h1, if_pos (by simp)] at ih
          exact ih
        · rw [if_neg h1]
          rw [if_neg (by simp [h1])] at ih
          exact ih
      · rw [if_neg h0]
        rw [if_neg (by simp [h0])] at ih
        exact ih
    · rw [if_neg h5]
      rw [if_neg (by simp [h5])] at ih
      exact ih
theorem rowI_of (l : List S46) (i : Nat) (hi : i < l.length) : rowI l i = if l[i].f5 = true then none else some (rowAt l i l[i]) := by
  unfold rowI; rw [List.getElem?_eq_getElem hi]
theorem rowsTo_len (l : List S46) (i : Nat) : (rowsTo l i).length ≤ i := by
  unfold rowsTo
  have := List.length_filterMap_le (rowI l) (List.range i)
  rwa [List.length_range] at this
theorem rows_l0 (l : List S46) (hn : l.length < 100000) : ∀ (d i k : Nat), i + d = l.length → (l.length + 3) * d + 1 ≤ k →
    berthingref32_Rows.l0 k (l.map toR) ((rowsTo l i).map rowS) (i : Int) = some ((rowsL l).map rowS)
  | 0, i, k, hi, hk => by
    obtain ⟨k, rfl⟩ : ∃ m, k = m + 1 := ⟨k - 1, by omega⟩
    have c1 : ¬((i : Int) < ((l.map toR).length : Int)) := by rw [List.length_map]; omega
    rw [berthingref32_Rows.l0, if_neg c1]
    obtain rfl : i = l.length := by omega
    rfl
  | d + 1, i, k, hi, hk => by
    obtain ⟨k, rfl⟩ : ∃ m, k = m + 1 := ⟨k - 1, by omega⟩
    have hlt : i < l.length := by omega
    have c1 : (i : Int) < ((l.map toR).length : Int) := by rw [List.length_map]; omega
    have c2 : 0 ≤ (i : Int) := by omega
    rw [Nat.mul_add, Nat.mul_one] at hk
    have ih := fun (k : Nat) hk => rows_l0 l hn d (i + 1) k (by omega) hk
    rw [rowsTo_succ, rowI_of l i hlt] at ih
    have hlen := rowsTo_len l i
    have er := rd35 l i hlt
    rw [berthingref32_Rows.l0, if_pos c1, if_pos c2, er]
    show (if l[i].f5 = true then _ else _) = _
    by_cases h5 : l[i].f5 = true
    · rw [if_pos h5, wrap_nat i (by omega)]
      have := ih k (by omega)
      rw [if_pos h5] at this
      simpa using this
    · rw [if_neg h5]
      have ew : wrap64 (((l.map toR).length : Int) - 1) = ((l.length - 1 : Nat) : Int) := by rw [List.length_map]; unfold wrap64; omega
      rw [ew]
      have h1 := rows_l1 l hn i hlt ((rowsTo l i).map rowS) (by rw [List.length_map]; omega) (some ((rowsL l).map rowS)) ((l.length + 3) * d + 1) ⟨fun k hk => by
        have := ih k hk
        rw [if_neg h5] at this
        simpa using this⟩ (l.length - 1 - i) (l.length - 1) k (by omega) (by omega) (by omega)
      rw [show l.length - 1 + 1 = l.length by omega, endAt_end l l[i] l.length (Nat.le_refl _)] at h1
      exact h1
theorem rows_f (l : List S46) (hn : l.length ≤ 16) (k : Nat) (hk : 400 ≤ k) : berthingref32_Rows.f k (l.map toR) = some ((rowsL l).map rowS) := by
  have h2 : (l.length + 3) * l.length ≤ 19 * 16 := Nat.mul_le_mul (by omega) hn
  exact rows_l0 l (by omega) l.length 0 k (by omega) (by omega)
end Go.Proofs.YtdpomgfibjlehaaDoor.Tr

set_option linter.unusedVariables false
set_option linter.unusedSimpArgs false
/- The reference's drawing is the program's. -/
namespace Go.Proofs.YtdpomgfibjlehaaDoor.Tr
open Go Go.Proofs Go.RowKit Go.Lib Go.Proofs.CodBytes Go.Proofs.BitsPlain Go.Proofs.YtdpomgfibjlehaaDoorW.PrintWords Go.Proofs.YtdpomgfibjlehaaDoorW.PrintLast Go.Proofs.YtdpomgfibjlehaaDoorW.PrintMore Go.Proofs.YtdpomgfibjlehaaDoor.PTr Go.Proofs.YtdpomgfibjlehaaDoor.CodSame Go.Proofs.YtdpomgfibjlehaaDoor.Cur

theorem backL_snoc (xs : List TRow) (x : TRow) : backL (xs ++ [x]) = ((xs.length : Int), x) :: backL xs := by
  unfold backL backTo
  rw [List.length_append, List.length_singleton, List.range_succ_eq_map, List.map_cons, List.map_map]
  congr 1
  · have e : xs.length + 1 - 1 - 0 = xs.length := by omega
    rw [e]
    congr 1
    rw [List.getD_eq_getElem?_getD, List.getElem?_append_right (Nat.le_refl _), Nat.sub_self]; rfl
  · refine List.map_congr_left fun j hj => ?_
    have hj := List.mem_range.1 hj
    have e : xs.length + 1 - 1 - (j + 1) = xs.length - 1 - j := by omega
    show (((xs.length + 1 - 1 - (j + 1) : Nat) : Int), (xs ++ [x]).getD (xs.length + 1 - 1 - (j + 1)) zR) = _
    rw [e, List.getD_eq_getElem?_getD, List.getElem?_append_left (by omega), ← List.getD_eq_getElem?_getD]
/-- what the reference draws: the last row that holds counts -/
def refC (part n at_ : Int) : List TRow → Int → Int
  | [], c => c
  | r :: t, c => refC part n at_ t (if r.part = part ∧ holdsB r at_ = true ∧ hasB r.nodes n = true then 48 + Int.tmod r.job 10 else c)
theorem refC_snoc (part n at_ : Int) (x : TRow) : ∀ (rs : List TRow) (c : Int), refC part n at_ (rs ++ [x]) c = if x.part = part ∧ holdsB x at_ = true ∧ hasB x.nodes n = true then 48 + Int.tmod x.job 10 else refC part n at_ rs c
  | [], c => rfl
  | r :: t, c => by
    show refC part n at_ (t ++ [x]) _ = _
    rw [refC_snoc part n at_ x t]; rfl
theorem refC_back (part n at_ : Int) : ∀ (m : Nat) (rs : List TRow), rs.length = m → refC part n at_ rs 46 = chrO ((backL (ownP part rs)).find? (hitB n at_))
  | 0, rs, h => by obtain rfl := List.length_eq_zero_iff.1 h; rfl
  | m + 1, rs, h => by
    have hne : rs ≠ [] := fun e => by subst e; simp at h
    obtain ⟨ys, x, rfl⟩ : ∃ ys x, rs = ys ++ [x] := ⟨rs.dropLast, rs.getLast hne, (List.dropLast_concat_getLast hne).symm⟩
    have ih := refC_back part n at_ m ys (by simpa using h)
    rw [refC_snoc, ownP_snoc]
    by_cases hp : x.part = part
    · rw [if_pos hp, backL_snoc, List.find?_cons]
      have hh : hitB n at_ (((ownP part ys).length : Int), x) = (holdsB x at_ && hasB x.nodes n) := rfl
      rw [hh]
      by_cases hq : (holdsB x at_ && hasB x.nodes n) = true
      · rw [hq]
        rw [Bool.and_eq_true] at hq
        rw [if_pos ⟨hp, hq⟩]; rfl
      · rw [Bool.eq_false_iff.2 hq]
        rw [Bool.and_eq_true] at hq
        rw [if_neg (fun e => hq e.2)]
        exact ih
    · rw [if_neg hp, if_neg (fun e => hp e.1)]
      exact ih
/-- the bytes that a cell may hold ahead of its end -/
def markB (c : Int) : Prop := c = 46 ∨ (48 ≤ c ∧ c ≤ 57)
theorem mark_ne {c : Int} (h : markB c) : ((strOfNums [c]).toList != ([32] : List UInt8)) = true := by
  have key : ∀ d : Fin 12, ((strOfNums [((46 + d.val : Nat) : Int)]).toList != ([32] : List UInt8)) = true := by decide +kernel
  unfold markB at h
  have := key ⟨(c - 46).toNat, by omega⟩
  have e : ((46 + (c - 46).toNat : Nat) : Int) = c := by omega
  rw [e] at this
  exact this
theorem blank_eq : ((strOfNums [32]).toList != ([32] : List UInt8)) = false := by decide +kernel
theorem digit_str (j : Int) (hj : 0 ≤ j) : (⟨#[48, 49, 50, 51, 52, 53, 54, 55, 56, 57]⟩ : ByteArray).extract ((Int.tmod j 10) : Int).toNat ((wrap64 ((Int.tmod j 10) + 1)) : Int).toNat = strOfNums [48 + Int.tmod j 10] := by
  have key : ∀ d : Fin 10, ((⟨#[48, 49, 50, 51, 52, 53, 54, 55, 56, 57]⟩ : ByteArray).extract d.val (d.val + 1)) = strOfNums [48 + (d.val : Int)] := by decide +kernel
  have e := Int.tmod_eq_emod_of_nonneg hj (b := 10)
  obtain ⟨d, hd⟩ : ∃ d : Nat, Int.tmod j 10 = (d : Int) := ⟨(j % 10).toNat, by omega⟩
  have hd10 : d < 10 := by omega
  have e2 : (wrap64 ((d : Int) + 1)).toNat = d + 1 := by unfold wrap64; omega
  rw [hd, e2, Int.toNat_natCast]
  exact key ⟨d, hd10⟩
theorem digit_mark (j : Int) (hj : 0 ≤ j) : markB (48 + Int.tmod j 10) := by
  have e := Int.tmod_eq_emod_of_nonneg hj (b := 10)
  unfold markB; omega
def RowOk (r : TRow) : Prop := 0 ≤ r.job ∧ 0 ≤ r.nodes ∧ r.nodes < 18446744073709551616

theorem cell_l2 (rs : List TRow) (hrs : ∀ r ∈ rs, RowOk r) (hlr : rs.length < 100000) (part nodes fr many kk at_ : Int) (hat : wrap64 (fr + kk) = at_) (n : Nat) (hn : n < 64) (pre : List Int) (hp : pre.length < 100000) (T : Int) (R : Option ByteArray) (K : Nat) (hK : 65 ≤ K)
    (HN : Aside0 (∀ k : Nat, K ≤ k → berthingref32_Draw.l1 k part nodes fr many (strOfNums (pre ++ [T])) (rs.map rowS) (n : Int) (wrap64 (kk + 1)) = R)) : ∀ (d i : Nat) (c : Int) (k : Nat), i + d = rs.length → markB c → refC part (n : Int) at_ (rs.drop i) c = T → K + 2 * d + 2 ≤ k →
    berthingref32_Draw.l2 k part nodes fr many (strOfNums pre) (rs.map rowS) (n : Int) kk (strOfNums [c]) (i : Int) = R
  | 0, i, c, k, hi, hc, hT, hk => by
    obtain ⟨k, rfl⟩ : ∃ m, k = m + 1 := ⟨k - 1, by omega⟩
    obtain ⟨k, rfl⟩ : ∃ m, k = m + 1 := ⟨k - 1, by omega⟩
    have c1 : ¬((i : Int) < ((rs.map rowS).length : Int)) := by rw [List.length_map]; omega
    have c2 : (strOfNums pre).size + (strOfNums [c]).size ≤ 9223372036854775807 := by rw [size_str, size_str, List.length_singleton]; omega
    rw [List.drop_of_length_le (by omega)] at hT
    obtain rfl : c = T := hT
    rw [berthingref32_Draw.l2, if_neg c1, berthingref32_Draw.j7, if_neg (by decide), if_pos c2, ← str_append]
    exact HN.out k (by omega)
  | d + 1, i, c, k, hi, hc, hT, hk => by
    obtain ⟨k, rfl⟩ : ∃ m, k = m + 1 := ⟨k - 1, by omega⟩
    obtain ⟨k, rfl⟩ : ∃ m, k = m + 1 := ⟨k - 1, by omega⟩
    have hlt : i < rs.length := by omega
    have c1 : (i : Int) < ((rs.map rowS).length : Int) := by rw [List.length_map]; omega
    have c2 : (0 : Int) ≤ (i : Int) := by omega
    have ih := fun (c : Int) (hc : markB c) (hT : refC part (n : Int) at_ (rs.drop (i + 1)) c = T) => cell_l2 rs hrs hlr part nodes fr many kk at_ hat n hn pre hp T R K hK HN d (i + 1) c k (by omega) hc hT (by omega)
    have er := rd85 rs i hlt
    have hok := hrs _ (List.getElem_mem hlt)
    rw [List.drop_eq_getElem_cons hlt] at hT
    generalize rs[i] = r at er hok hT
    obtain ⟨L, hL⟩ := of_has r.nodes hok.2 n hn
    obtain ⟨hL1, hL2⟩ := hL k (by omega)
    have wi := wrap_nat i (by omega)
    rw [berthingref32_Draw.l2, if_pos c1, mark_ne hc, berthingref32_Draw.j7, if_pos rfl, if_pos c2, if_pos c1, er, hat, wi]
    show (if r.part = part then (if r.fr ≤ at_ then (if at_ < r.to_ then ((berthingref07_Of.f k r.nodes).bind fun t317 => ((berthingref07_List_Has.f k t317 (n : Int)).bind fun t320 => _)) else _) else _) else _) = R
    rw [hL1]
    show (if r.part = part then (if r.fr ≤ at_ then (if at_ < r.to_ then ((berthingref07_List_Has.f k L (n : Int)).bind fun t320 => _) else _) else _) else _) = R
    rw [hL2]
    show (if r.part = part then (if r.fr ≤ at_ then (if at_ < r.to_ then (if hasB r.nodes (n : Int) = true then (if 0 ≤ Int.tmod r.job 10 then (if Int.tmod r.job 10 ≤ wrap64 (Int.tmod r.job 10 + 1) then (if wrap64 (Int.tmod r.job 10 + 1) ≤ 10 then (berthingref32_Draw.l2 k part nodes fr many (strOfNums pre) (rs.map rowS) (n : Int) kk ((⟨#[48, 49, 50, 51, 52, 53, 54, 55, 56, 57]⟩ : ByteArray).extract ((Int.tmod r.job 10) : Int).toNat ((wrap64 ((Int.tmod r.job 10) + 1)) : Int).toNat) ((i + 1 : Nat) : Int)) else none) else none) else none) else _) else _) else _) else _) = R
    have hT' : refC part (n : Int) at_ (rs.drop (i + 1)) (if r.part = part ∧ holdsB r at_ = true ∧ hasB r.nodes (n : Int) = true then 48 + Int.tmod r.job 10 else c) = T := hT
    by_cases h1 : r.part = part
    · rw [if_pos h1]
      by_cases h2 : r.fr ≤ at_
      · rw [if_pos h2]
        by_cases h3 : at_ < r.to_
        · rw [if_pos h3]
          have hh : holdsB r at_ = true := decide_eq_true ⟨h2, h3⟩
          by_cases h4 : hasB r.nodes (n : Int) = true
          · have e := Int.tmod_eq_emod_of_nonneg hok.1 (b := 10)
            have q1 : 0 ≤ Int.tmod r.job 10 := by omega
            have q2 : Int.tmod r.job 10 ≤ wrap64 (Int.tmod r.job 10 + 1) := by unfold wrap64; omega
            have q3 : wrap64 (Int.tmod r.job 10 + 1) ≤ 10 := by unfold wrap64; omega
            rw [if_pos h4, if_pos q1, if_pos q2, if_pos q3, digit_str r.job hok.1]
            rw [if_pos ⟨h1, hh, h4⟩] at hT'
            exact ih _ (digit_mark r.job hok.1) hT'
          · rw [if_neg h4]
            rw [if_neg (fun e => h4 e.2.2)] at hT'
            exact ih c hc hT'
        · rw [if_neg h3]
          rw [if_neg (fun e => h3 (of_decide_eq_true e.2.1).2)] at hT'
          exact ih c hc hT'
      · rw [if_neg h2]
        rw [if_neg (fun e => h2 (of_decide_eq_true e.2.1).1)] at hT'
        exact ih c hc hT'
    · rw [if_neg h1]
      rw [if_neg (fun e => h1 e.1)] at hT'
      exact ih c hc hT'
theorem blank_l2 (rs : List TRow) (part nodes fr many kk : Int) (n : Int) (pre : List Int) (hp : pre.length < 100000) (R : Option ByteArray) (k : Nat)
    (HN : berthingref32_Draw.l1 k part nodes fr many (strOfNums (pre ++ [32])) (rs.map rowS) n (wrap64 (kk + 1)) = R) :
    berthingref32_Draw.l2 (k + 2) part nodes fr many (strOfNums pre) (rs.map rowS) n kk (strOfNums [32]) 0 = R := by
  have c2 : (strOfNums pre).size + (strOfNums [32]).size ≤ 9223372036854775807 := by rw [size_str, size_str, List.length_singleton]; omega
  have hj : berthingref32_Draw.j7 (k + 1) part nodes fr many (strOfNums pre) (rs.map rowS) n kk (strOfNums [32]) 0 false = R := by
    rw [berthingref32_Draw.j7, if_neg (by decide), if_pos c2, ← str_append]; exact HN
  rw [berthingref32_Draw.l2, blank_eq]
  split
  · exact hj
  · exact hj
/-- one cell -/
theorem cell_j3 (rs : List TRow) (hrs : ∀ r ∈ rs, RowOk r) (hlr : rs.length ≤ 16) (part nodes fr many : Int) (hfr : I64 fr) (kk : Nat) (hkk : kk < 100) (n : Nat) (hn : n < 64) (pre : List Int) (hp : pre.length < 100000) (R : Option ByteArray) (K : Nat) (hK : 65 ≤ K)
    (HN : Aside0 (∀ k : Nat, K ≤ k → berthingref32_Draw.l1 k part nodes fr many (strOfNums (pre ++ [cellC (ownP part rs) (n : Int) (timeI fr (kk : Int))])) (rs.map rowS) (n : Int) (wrap64 ((kk : Int) + 1)) = R)) (k : Nat) (hk : K + 40 ≤ k) :
    berthingref32_Draw.j3 k part nodes fr many (strOfNums pre) (rs.map rowS) (n : Int) (kk : Int) true = R := by
  obtain ⟨k, rfl⟩ : ∃ m, k = m + 3 := ⟨k - 3, by omega⟩
  have cellB : (timeI fr (kk : Int) < 0 ∨ timeI fr (kk : Int) ≥ 1099511627776) → ∀ s : ByteArray, berthingref32_Draw.j4 (k + 2) part nodes fr many (strOfNums pre) (rs.map rowS) (n : Int) (kk : Int) s true = R := by
    intro hb s
    rw [berthingref32_Draw.j4, if_pos rfl, berthingref32_Draw.j5]
    obtain ⟨k, rfl⟩ : ∃ m, k = m + 2 := ⟨k - 2, by omega⟩
    refine blank_l2 rs part nodes fr many (kk : Int) (n : Int) pre hp R k ?_
    have := HN.out k (by omega)
    unfold cellC at this
    rw [if_pos hb] at this
    exact this
  have cellN : ¬(fr ≥ 1099511627776) → ¬(timeI fr (kk : Int) < 0 ∨ timeI fr (kk : Int) ≥ 1099511627776) → berthingref32_Draw.j4 (k + 2) part nodes fr many (strOfNums pre) (rs.map rowS) (n : Int) (kk : Int) (⟨#[46]⟩ : ByteArray) false = R := by
    intro hf hb
    rw [berthingref32_Draw.j4, if_neg (by decide), berthingref32_Draw.j5]
    have e46 : (⟨#[46]⟩ : ByteArray) = strOfNums [46] := rfl
    have ht : timeI fr (kk : Int) = wrap64 (fr + (kk : Int)) := by unfold timeI; rw [if_neg hf]
    rw [e46]
    refine cell_l2 rs hrs (by omega) part nodes fr many (kk : Int) _ ht.symm n hn pre hp _ R K hK HN rs.length 0 46 k (Nat.zero_add _) (Or.inl rfl) ?_ (by omega)
    rw [List.drop_zero, refC_back part (n : Int) _ rs.length rs rfl]
    unfold cellC
    rw [if_neg hb]
  unfold I64 at hfr
  have ht : timeI fr (kk : Int) = if fr ≥ 1099511627776 then 1099511627776 else wrap64 (fr + (kk : Int)) := rfl
  rw [berthingref32_Draw.j3, if_pos rfl]
  by_cases c3 : fr ≥ 1099511627776
  · rw [if_pos c3] at ht
    have hb : timeI fr (kk : Int) < 0 ∨ timeI fr (kk : Int) ≥ 1099511627776 := by rw [ht]; omega
    have c0 : ¬(fr < 0) := by omega
    rw [if_neg c0, if_pos c3]
    exact cellB hb _
  · rw [if_neg c3] at ht
    have ew : wrap64 (fr + (kk : Int)) = fr + (kk : Int) := by unfold wrap64; omega
    rw [ew] at ht
    rw [ew, if_neg c3]
    by_cases c0 : fr < 0
    · rw [if_pos c0]
      by_cases c1 : fr + (kk : Int) < 0
      · rw [if_pos c1]
        exact cellB (by rw [ht]; exact Or.inl c1) _
      · rw [if_neg c1, decide_eq_false (show ¬(fr + (kk : Int) ≥ 1099511627776) by omega)]
        exact cellN c3 (by rw [ht]; omega)
    · rw [if_neg c0]
      by_cases c2 : fr + (kk : Int) ≥ 1099511627776
      · rw [decide_eq_true c2]
        exact cellB (by rw [ht]; exact Or.inr c2) _
      · rw [decide_eq_false c2]
        exact cellN c3 (by rw [ht]; omega)
/-- one line -/
theorem row_l1 (rs : List TRow) (hrs : ∀ r ∈ rs, RowOk r) (hlr : rs.length ≤ 16) (part nodes fr many : Int) (hfr : I64 fr) (m : Nat) (hm : m ≤ 40) (hmm : ∀ i : Nat, (i : Int) < many ↔ i < m) (n : Nat) (hn : n < 64) (pre : List Int) (hp : pre.length < 50000) (R : Option ByteArray) (K : Nat) (hK : 65 ≤ K)
    (HN : Aside0 (∀ k : Nat, K ≤ k → berthingref32_Draw.l0 k part nodes fr many (strOfNums (pre ++ (drawRow (ownP part rs) fr (n : Int) m ++ [10]))) (rs.map rowS) ((n + 1 : Nat) : Int) = R)) : ∀ (d kk k : Nat), kk + d = m → K + 50 * d + 3 ≤ k →
    berthingref32_Draw.l1 k part nodes fr many (strOfNums (pre ++ drawRow (ownP part rs) fr (n : Int) kk)) (rs.map rowS) (n : Int) (kk : Int) = R
  | 0, kk, k, hi, hk => by
    obtain ⟨k, rfl⟩ : ∃ m, k = m + 2 := ⟨k - 2, by omega⟩
    obtain rfl : kk = m := by omega
    have c1 : ¬((kk : Int) < many) := fun h => by have := (hmm kk).1 h; omega
    have hl := drawRow_length (ownP part rs) fr (n : Int) kk
    have c2 : (strOfNums (pre ++ drawRow (ownP part rs) fr (n : Int) kk)).size + 1 ≤ 9223372036854775807 := by rw [size_str, List.length_append, hl]; omega
    have e10 : (⟨#[10]⟩ : ByteArray) = strOfNums [10] := rfl
    rw [berthingref32_Draw.l1, if_neg c1, berthingref32_Draw.j3, if_neg (by decide), if_pos c2, e10, ← str_append, wrap_nat n (by omega), List.append_assoc]
    exact HN.out k (by omega)
  | d + 1, kk, k, hi, hk => by
    obtain ⟨k, rfl⟩ : ∃ m, k = m + 1 := ⟨k - 1, by omega⟩
    have c1 : (kk : Int) < many := (hmm kk).2 (by omega)
    have ih := fun (k : Nat) hk => row_l1 rs hrs hlr part nodes fr many hfr m hm hmm n hn pre hp R K hK HN d (kk + 1) k (by omega) hk
    rw [berthingref32_Draw.l1, if_pos c1, decide_eq_true (show (kk : Int) < 1024 by omega)]
    refine cell_j3 rs hrs hlr part nodes fr many hfr kk (by omega) n hn _ (by rw [List.length_append, drawRow_length]; omega) R (K + 50 * d + 3) (by omega) ⟨fun k hk => ?_⟩ k (by omega)
    rw [wrap_nat kk (by omega), List.append_assoc, ← drawRow_succ]
    exact ih k hk
/-- all lines -/
theorem all_l0 (rs : List TRow) (hrs : ∀ r ∈ rs, RowOk r) (hlr : rs.length ≤ 16) (part nodes fr many : Int) (hfr : I64 fr) (m : Nat) (hm : m ≤ 40) (hmm : ∀ i : Nat, (i : Int) < many ↔ i < m) (nd : Nat) (hnd : nd ≤ 9) (hnn : ∀ i : Nat, (i : Int) < nodes ↔ i < nd) : ∀ (d n k : Nat), n + d = nd → 2200 * d + 100 ≤ k →
    berthingref32_Draw.l0 k part nodes fr many (strOfNums (drawTo (ownP part rs) fr m n)) (rs.map rowS) (n : Int) = some (strOfNums (drawTo (ownP part rs) fr m nd))
  | 0, n, k, hi, hk => by
    obtain ⟨k, rfl⟩ : ∃ m, k = m + 2 := ⟨k - 2, by omega⟩
    obtain rfl : n = nd := by omega
    have c1 : ¬((n : Int) < nodes) := fun h => by have := (hnn n).1 h; omega
    rw [berthingref32_Draw.l0, if_neg c1, berthingref32_Draw.j1, if_neg (by decide)]
  | d + 1, n, k, hi, hk => by
    obtain ⟨k, rfl⟩ : ∃ m, k = m + 2 := ⟨k - 2, by omega⟩
    have c1 : (n : Int) < nodes := (hnn n).2 (by omega)
    have ih := fun (k : Nat) hk => all_l0 rs hrs hlr part nodes fr many hfr m hm hmm nd hnd hnn d (n + 1) k (by omega) hk
    have hlen : (drawTo (ownP part rs) fr m n).length < 50000 := by
      rw [drawTo_length]
      have := Nat.mul_le_mul (show n ≤ 9 by omega) (show m + 1 ≤ 41 by omega)
      omega
    rw [berthingref32_Draw.l0, if_pos c1, decide_eq_true (show (n : Int) < 64 by omega), berthingref32_Draw.j1, if_pos rfl]
    have h := row_l1 rs hrs hlr part nodes fr many hfr m hm hmm n (by omega) (drawTo (ownP part rs) fr m n) hlen (some (strOfNums (drawTo (ownP part rs) fr m nd))) (2200 * d + 100) (by omega) ⟨fun k hk => by
      rw [← drawTo_succ]; exact ih k hk⟩ m 0 k (Nat.zero_add _) (by omega)
    have e0 : drawRow (ownP part rs) fr (n : Int) 0 = [] := rfl
    rw [e0, List.append_nil] at h
    exact h
theorem refdraw_f (l : List S46) (hl : l.length ≤ 16) (hrs : ∀ r ∈ rowsL l, RowOk r) (part nodes fr many : Int) (hfr : I64 fr) (hn : nodes ≤ 9) (hm : many ≤ 40) (k : Nat) (hk : 20000 ≤ k) :
    berthingref32_Draw.f k (l.map toR) part nodes fr many = some (strOfNums (drawL l part nodes fr many)) := by
  have hlen : (rowsL l).length ≤ 16 := Nat.le_trans (rowsTo_len l l.length) hl
  unfold berthingref32_Draw.f
  rw [rows_f l hl k (by omega), Option.bind_some]
  have h := all_l0 (rowsL l) hrs hlen part nodes fr many hfr (max 0 (min many 1024)).toNat (by omega) (fun i => by omega) (max 0 (min nodes 64)).toNat (by omega) (fun i => by omega) (max 0 (min nodes 64)).toNat 0 k (Nat.zero_add _) (by omega)
  exact h
end Go.Proofs.YtdpomgfibjlehaaDoor.Tr

set_option linter.unusedVariables false
set_option linter.unusedSimpArgs false
/- TraceDraws: its walk and its plain law. -/
namespace Go.Proofs.YtdpomgfibjlehaaDoor.Tr
open Go Go.Proofs Go.RowKit Go.Lib Go.Proofs.CodBytes Go.Proofs.BitsPlain Go.Proofs.YtdpomgfibjlehaaDoorW.PrintWords Go.Proofs.YtdpomgfibjlehaaDoorW.PrintLast Go.Proofs.YtdpomgfibjlehaaDoorW.PrintMore Go.Proofs.YtdpomgfibjlehaaDoor.PTr Go.Proofs.YtdpomgfibjlehaaDoor.CodSame Go.Proofs.YtdpomgfibjlehaaDoor.Cur
def minL (x y : Int) : Int := if y < x then y else x
def maxL (x y : Int) : Int := if x < y then y else x
theorem max2_L (k k' : IntKind) (x y : Int) : Builtin.max2 (.int k x) (.int k' y) = pure (.int k (maxL x y)) := max2_int k k' x y
theorem min2_L (k k' : IntKind) (x y : Int) : Builtin.min2 (.int k x) (.int k' y) = pure (.int k (minL x y)) := min2_int k k' x y
attribute [local go_sem] max2_L min2_L max_two min_two
def dr.T2 : Bool × List (List Nat × List Nat) := (true, [([], []), ([0], [0]), ([1], [1]), ([2], [2]), ([], []), ([4], [4]), ([5], [5]), ([6], [6]), ([3, 0, 1, 2, 3], [3]), ([7, 8, 0, 1, 2, 3, 4, 5, 6, 7, 8], [7])])
def dr.B2 : List Nat := [0, 1, 3, 7, 0, 16, 48, 112, 15, 511]
theorem dr.tab2 : rtab .any (opsOf Tryd.f4 2) = dr.T2 := by kernel_rfl
theorem dr.bits2 : waitsOk dr.T2.2 dr.B2 = true := by kernel_rfl
def dr.T3 : Bool × List (List Nat × List Nat) := (true, [([], []), ([], []), ([1], [1]), ([], []), ([], []), ([], []), ([0, 2, 3, 4, 5], [0, 2, 3, 4, 5]), ([], []), ([7, 6], [7]), ([], []), ([9], [9]), ([], []), ([], []), ([], []), ([8, 10, 11, 12, 13, 8], [8, 10, 11, 12, 13]), ([6, 14], [6, 14]), ([15, 14], [15]), ([16, 16], [16]), ([16, 17], [16, 17]), ([18, 17, 0, 1, 2, 3, 4, 5, 6, 7, 8, 9, 10, 11, 12, 13, 14, 15, 16, 17, 18], [18])])
def dr.B3 : List Nat := [0, 0, 2, 0, 0, 0, 63, 0, 255, 0, 512, 0, 0, 0, 16383, 32767, 65535, 131071, 262143, 524287]
theorem dr.tab3 : rtab .any (opsOf Tryd.f4 3) = dr.T3 := by kernel_rfl
theorem dr.bits3 : waitsOk dr.T3.2 dr.B3 = true := by kernel_rfl
set_option maxHeartbeats 8000000 in
set_option maxRecDepth 100000 in
theorem TraceDraws_go (k : Nat) (A0 : Option Addr) (c0 : Nat) (l0 : List (S46)) (fr x y z : Int) (L : List S46) (s : ByteArray) (LR : List S35) (w : World) (hT : Cur.ErrT w) (hr0 : Kd.C k46 w A0 l0.length l0) (hc0 : l0.length ≤ c0)
  (h1 : berthinglaw32_Tame.f l0 16 = some L) (hD : trace_Draw.f L x (maxL (-5) (minL y 9)) fr (maxL (-5) (minL z 40)) = some s) (hO : berthinglaw32_Own.f k L = some LR) (hR : berthingref32_Draw.f k LR x (maxL (-5) (minL y 9)) fr (maxL (-5) (minL z 40)) = some s) (hone : berthinglaw32_one.f k = some true) :
  Calls Tryd.prog 4 #[.slice A0 l0.length c0, .int .i64 fr, .agg #[.int .i64 x, .int .i64 y, .int .i64 z]] w fun e w' => e = .returned (.bool true) ∧ Below w.heap.size w w' := by
 have hu39 := Tryd.underlying39
 have W1 := (Below.refl _ w).alloc (Nat.le_refl _) (.cells #[.int .i64 x, .int .i64 y, .int .i64 z] 39)
 have B0 := blk_new w (.cells #[.int .i64 x, .int .i64 y, .int .i64 z] 39)
 have C0 := Kd.C_alloc hr0 (.cells #[.int .i64 x, .int .i64 y, .int .i64 z] 39)
 go_enter Tryd.func4, Tryd.ntmps4
 go_wp2_with (first | (go_at_call 13; refine (berthinglaw32_Tame.calls A0 c0 l0 16 L _ C0 hc0 h1).mono ?_; rintro e w2 ⟨v1, rfl, r1, b2⟩))
 have B2 := blk_below B0 b2
--WALK
 generalize hW2 : w2 = W3 at B2 r1 b2 ⊢
 have B3 := B2
 refine start_ (n := 10) (S := fun w' => Below W3.heap.size W3 w') (ds := []) #[false, false, false, false, false, false, false, false, false, false] (by kernel_rfl) rfl rfl (below_drew1 (Below.refl _ W3)) (fun hHeld => ?_); refine with_tabW dr.tab2 dr.bits2 (fun HT_ HW_ => ?_)
 refine pure_ (i := 0) (N := some 11) (v := ?_) (a' := ?_) #[true, false, false, false, false, false, false, false, false, false] rfl rfl (any_of HT_.out (by kernel_rfl)) (fun _ _ _ h => h) (Or.inl ⟨by rfl, ?_⟩) ?_ ?_
 rotate_left
 · intro w'
   go_simp
   with_reducible rfl
 rotate_left
 · simp only [Act.put, List.setIfInBounds_toArray, List.set_cons_zero, List.set_cons_succ, i64_w, i32_w]
   rfl
 refine pure_ (i := 4) (N := some 15) (v := ?_) (a' := ?_) #[true, false, false, false, true, false, false, false, false, false] rfl rfl (any_of HT_.out (by kernel_rfl)) (fun _ _ _ h => h) (Or.inl ⟨by rfl, ?_⟩) ?_ ?_
 rotate_left
 · intro w'
   go_simp
   with_reducible rfl
 rotate_left
 · simp only [Act.put, List.setIfInBounds_toArray, List.set_cons_zero, List.set_cons_succ, i64_w, i32_w]
   rfl
 refine take_ (i := 1) (N := some 12) (v := ?_) (a' := ?_) #[true, true, false, false, true, false, false, false, false, false] rfl rfl (take_ofW HT_.out HW_.out (by kernel_rfl)) (fun _ _ _ h => h) (Or.inl ⟨by rfl, ?_⟩) hHeld ?_ ?_
 rotate_left
 · rintro w' s0
   have g0 : w'.cell? ⟨w.heap.size, 0, none⟩ = some (.int .i64 x) := (blk_cell (blk_below B3 s0) 0).trans rfl
   have g1 : w'.cell? ⟨w.heap.size, 1, none⟩ = some (.int .i64 y) := (blk_cell (blk_below B3 s0) 1).trans rfl
   have g2 : w'.cell? ⟨w.heap.size, 2, none⟩ = some (.int .i64 z) := (blk_cell (blk_below B3 s0) 2).trans rfl
   go_simp
   with_reducible rfl
 rotate_left
 · simp only [Act.put, List.setIfInBounds_toArray, List.set_cons_zero, List.set_cons_succ, i64_w, i32_w]
   rfl
 refine take_ (i := 5) (N := some 16) (v := ?_) (a' := ?_) #[true, true, false, false, true, true, false, false, false, false] rfl rfl (take_ofW HT_.out HW_.out (by kernel_rfl)) (fun _ _ _ h => h) (Or.inl ⟨by rfl, ?_⟩) hHeld ?_ ?_
 rotate_left
 · rintro w' s0
   have g0 : w'.cell? ⟨w.heap.size, 0, none⟩ = some (.int .i64 x) := (blk_cell (blk_below B3 s0) 0).trans rfl
   have g1 : w'.cell? ⟨w.heap.size, 1, none⟩ = some (.int .i64 y) := (blk_cell (blk_below B3 s0) 1).trans rfl
   have g2 : w'.cell? ⟨w.heap.size, 2, none⟩ = some (.int .i64 z) := (blk_cell (blk_below B3 s0) 2).trans rfl
   go_simp
   with_reducible rfl
 rotate_left
 · simp only [Act.put, List.setIfInBounds_toArray, List.set_cons_zero, List.set_cons_succ, i64_w, i32_w]
   rfl
 refine pure_ (i := 2) (N := some 13) (v := ?_) (a' := ?_) #[true, true, true, false, true, true, false, false, false, false] rfl rfl (any_of HT_.out (by kernel_rfl)) (fun _ _ _ h => h) (Or.inl ⟨by rfl, ?_⟩) ?_ ?_
 rotate_left
 · intro w'
   go_simp
   with_reducible rfl
 rotate_left
 · simp only [Act.put, List.setIfInBounds_toArray, List.set_cons_zero, List.set_cons_succ, i64_w, i32_w]
   rfl
 refine pure_ (i := 3) (N := some 14) (v := ?_) (a' := ?_) #[true, true, true, true, true, true, false, false, false, false] rfl rfl (any_of HT_.out (by kernel_rfl)) (fun _ _ _ h => h) (Or.inl ⟨by rfl, ?_⟩) ?_ ?_
 rotate_left
 · intro w'
   go_simp
   with_reducible rfl
 rotate_left
 · simp only [Act.put, List.setIfInBounds_toArray, List.set_cons_zero, List.set_cons_succ, i64_w, i32_w]
   rfl
 refine pure_ (i := 6) (N := some 17) (v := ?_) (a' := ?_) #[true, true, true, true, true, true, true, false, false, false] rfl rfl (any_of HT_.out (by kernel_rfl)) (fun _ _ _ h => h) (Or.inl ⟨by rfl, ?_⟩) ?_ ?_
 rotate_left
 · intro w'
   go_simp
   with_reducible rfl
 rotate_left
 · simp only [Act.put, List.setIfInBounds_toArray, List.set_cons_zero, List.set_cons_succ, i64_w, i32_w]
   rfl
 refine pure_ (i := 7) (N := some 18) (v := ?_) (a' := ?_) #[true, true, true, true, true, true, true, true, false, false] rfl rfl (any_of HT_.out (by kernel_rfl)) (fun _ _ _ h => h) (Or.inl ⟨by rfl, ?_⟩) ?_ ?_
 rotate_left
 · intro w'
   go_simp
   with_reducible rfl
 rotate_left
 · simp only [Act.put, List.setIfInBounds_toArray, List.set_cons_zero, List.set_cons_succ, i64_w, i32_w]
   rfl
 refine pure_ (i := 8) (N := some 7) (v := ?_) (a' := ?_) #[true, true, true, true, true, true, true, true, true, false] rfl rfl (any_of HT_.out (by kernel_rfl)) (fun _ _ _ h => h) (Or.inl ⟨by rfl, ?_⟩) ?_ ?_
 rotate_left
 · intro w'
   go_simp
   with_reducible rfl
 rotate_left
 · simp only [Act.put, List.setIfInBounds_toArray, List.set_cons_zero, List.set_cons_succ, i64_w, i32_w]
   rfl
 refine pure_ (i := 9) (N := some 8) (v := ?_) (a' := ?_) #[true, true, true, true, true, true, true, true, true, true] rfl rfl (any_of HT_.out (by kernel_rfl)) (fun _ _ _ h => h) (Or.inl ⟨by rfl, ?_⟩) ?_ ?_
 rotate_left
 · intro w'
   go_simp
   with_reducible rfl
 rotate_left
 · simp only [Act.put, List.setIfInBounds_toArray, List.set_cons_zero, List.set_cons_succ, i64_w, i32_w]
   rfl
 refine done_ (done_of HT_.out (by kernel_rfl)) ?_
 go_wp2
 generalize maxL (-5) (minL y 9) = nn at hD hR ⊢
 generalize maxL (-5) (minL z 40) = mm at hD hR ⊢
 have bD := below_drew1 (Below.refl W3.heap.size W3)
 have b3 := below_step b2 bD
 have B4 := blk_below B3 bD
 have R4 := Kd.R_below r1 bD
 have W4b := below_step W1 b3
 clear bD b3 b2 r1 B3 B2 B0 C0 W1 hHeld HT_ HW_
 generalize W3.drew = W4 at B4 R4 W4b ⊢
 subst hW2
 obtain ⟨A4, c4, rfl, le4, C4⟩ := Kd.R_reads R4
 refine start_ (n := 20) (S := fun w' => Below W4.heap.size W4 w') (ds := []) #[false, false, false, false, false, false, false, false, false, false, false, false, false, false, false, false, false, false, false, false] (by kernel_rfl) rfl rfl (below_drew1 (Below.refl _ W4)) (fun hHeld => ?_); refine with_tabW dr.tab3 dr.bits3 (fun HT_ HW_ => ?_)
 refine pure_ (i := 0) (N := some 19) (v := ?_) (a' := ?_) #[true, false, false, false, false, false, false, false, false, false, false, false, false, false, false, false, false, false, false, false] rfl rfl (any_of HT_.out (by kernel_rfl)) (fun _ _ _ h => h) (Or.inl ⟨by rfl, ?_⟩) ?_ ?_
 rotate_left
 · intro w'
   go_simp
   with_reducible rfl
 rotate_left
 · simp only [Act.put, List.setIfInBounds_toArray, List.set_cons_zero, List.set_cons_succ, i64_w, i32_w]
   rfl
 refine pure_ (i := 1) (N := some 20) (v := ?_) (a' := ?_) #[true, true, false, false, false, false, false, false, false, false, false, false, false, false, false, false, false, false, false, false] rfl rfl (any_of HT_.out (by kernel_rfl)) (fun _ _ _ h => h) (Or.inl ⟨by rfl, ?_⟩) ?_ ?_
 rotate_left
 · intro w'
   go_simp
   with_reducible rfl
 rotate_left
 · simp only [Act.put, List.setIfInBounds_toArray, List.set_cons_zero, List.set_cons_succ, i64_w, i32_w]
   rfl
 refine pure_ (i := 3) (N := some 22) (v := ?_) (a' := ?_) #[true, true, false, true, false, false, false, false, false, false, false, false, false, false, false, false, false, false, false, false] rfl rfl (any_of HT_.out (by kernel_rfl)) (fun _ _ _ h => h) (Or.inl ⟨by rfl, ?_⟩) ?_ ?_
 rotate_left
 · intro w'
   go_simp
   with_reducible rfl
 rotate_left
 · simp only [Act.put, List.setIfInBounds_toArray, List.set_cons_zero, List.set_cons_succ, i64_w, i32_w]
   rfl
 refine pure_ (i := 4) (N := some 23) (v := ?_) (a' := ?_) #[true, true, false, true, true, false, false, false, false, false, false, false, false, false, false, false, false, false, false, false] rfl rfl (any_of HT_.out (by kernel_rfl)) (fun _ _ _ h => h) (Or.inl ⟨by rfl, ?_⟩) ?_ ?_
 rotate_left
 · intro w'
   go_simp
   with_reducible rfl
 rotate_left
 · simp only [Act.put, List.setIfInBounds_toArray, List.set_cons_zero, List.set_cons_succ, i64_w, i32_w]
   rfl
 refine pure_ (i := 5) (N := some 24) (v := ?_) (a' := ?_) #[true, true, false, true, true, true, false, false, false, false, false, false, false, false, false, false, false, false, false, false] rfl rfl (any_of HT_.out (by kernel_rfl)) (fun _ _ _ h => h) (Or.inl ⟨by rfl, ?_⟩) ?_ ?_
 rotate_left
 · intro w'
   go_simp
   with_reducible rfl
 rotate_left
 · simp only [Act.put, List.setIfInBounds_toArray, List.set_cons_zero, List.set_cons_succ, i64_w, i32_w]
   rfl
 refine pure_ (i := 7) (N := some 26) (v := ?_) (a' := ?_) #[true, true, false, true, true, true, false, true, false, false, false, false, false, false, false, false, false, false, false, false] rfl rfl (any_of HT_.out (by kernel_rfl)) (fun _ _ _ h => h) (Or.inl ⟨by rfl, ?_⟩) ?_ ?_
 rotate_left
 · intro w'
   go_simp
   with_reducible rfl
 rotate_left
 · simp only [Act.put, List.setIfInBounds_toArray, List.set_cons_zero, List.set_cons_succ, i64_w, i32_w]
   rfl
 refine pure_ (i := 9) (N := some 28) (v := ?_) (a' := ?_) #[true, true, false, true, true, true, false, true, false, true, false, false, false, false, false, false, false, false, false, false] rfl rfl (any_of HT_.out (by kernel_rfl)) (fun _ _ _ h => h) (Or.inl ⟨by rfl, ?_⟩) ?_ ?_
 rotate_left
 · intro w'
   go_simp
   with_reducible rfl
 rotate_left
 · simp only [Act.put, List.setIfInBounds_toArray, List.set_cons_zero, List.set_cons_succ, i64_w, i32_w]
   rfl
 refine pure_ (i := 11) (N := some 30) (v := ?_) (a' := ?_) #[true, true, false, true, true, true, false, true, false, true, false, true, false, false, false, false, false, false, false, false] rfl rfl (any_of HT_.out (by kernel_rfl)) (fun _ _ _ h => h) (Or.inl ⟨by rfl, ?_⟩) ?_ ?_
 rotate_left
 · intro w'
   go_simp
   with_reducible rfl
 rotate_left
 · simp only [Act.put, List.setIfInBounds_toArray, List.set_cons_zero, List.set_cons_succ, i64_w, i32_w]
   rfl
 refine pure_ (i := 12) (N := some 31) (v := ?_) (a' := ?_) #[true, true, false, true, true, true, false, true, false, true, false, true, true, false, false, false, false, false, false, false] rfl rfl (any_of HT_.out (by kernel_rfl)) (fun _ _ _ h => h) (Or.inl ⟨by rfl, ?_⟩) ?_ ?_
 rotate_left
 · intro w'
   go_simp
   with_reducible rfl
 rotate_left
 · simp only [Act.put, List.setIfInBounds_toArray, List.set_cons_zero, List.set_cons_succ, i64_w, i32_w]
   rfl
 refine pure_ (i := 13) (N := some 32) (v := ?_) (a' := ?_) #[true, true, false, true, true, true, false, true, false, true, false, true, true, true, false, false, false, false, false, false] rfl rfl (any_of HT_.out (by kernel_rfl)) (fun _ _ _ h => h) (Or.inl ⟨by rfl, ?_⟩) ?_ ?_
 rotate_left
 · intro w'
   go_simp
   with_reducible rfl
 rotate_left
 · simp only [Act.put, List.setIfInBounds_toArray, List.set_cons_zero, List.set_cons_succ, i64_w, i32_w]
   rfl
 refine take_ (i := 2) (N := some 21) (v := ?_) (a' := ?_) #[true, true, true, true, true, true, false, true, false, true, false, true, true, true, false, false, false, false, false, false] rfl rfl (take_ofW HT_.out HW_.out (by kernel_rfl)) (fun _ _ _ h => h) (Or.inl ⟨by rfl, ?_⟩) hHeld ?_ ?_
 rotate_left
 · rintro w' s0
   have g0 : w'.cell? ⟨w.heap.size, 0, none⟩ = some (.int .i64 x) := (blk_cell (blk_below B4 s0) 0).trans rfl
   go_simp
   with_reducible rfl
 rotate_left
 · simp only [Act.put, List.setIfInBounds_toArray, List.set_cons_zero, List.set_cons_succ, i64_w, i32_w]
   rfl
 refine take_ (i := 10) (N := some 29) (v := ?_) (a' := ?_) #[true, true, true, true, true, true, false, true, false, true, true, true, true, true, false, false, false, false, false, false] rfl rfl (take_ofW HT_.out HW_.out (by kernel_rfl)) (fun _ _ _ h => h) (Or.inl ⟨by rfl, ?_⟩) hHeld ?_ ?_
 rotate_left
 · rintro w' s0
   have g0 : w'.cell? ⟨w.heap.size, 0, none⟩ = some (.int .i64 x) := (blk_cell (blk_below B4 s0) 0).trans rfl
   go_simp
   with_reducible rfl
 rotate_left
 · simp only [Act.put, List.setIfInBounds_toArray, List.set_cons_zero, List.set_cons_succ, i64_w, i32_w]
   rfl
 refine one_ (i := 6) (N := some 25) #[true, true, true, true, true, true, true, true, false, true, true, true, true, true, false, false, false, false, false, false] rfl rfl (one_of HT_.out (by kernel_rfl)) (by decide) (fun K hK => ?_)
 refine goes_ Tryd.func14 (by kernel_rfl) rfl #[.slice A4 L.length c4, .int .i64 x, .int .i64 nn, .int .i64 fr, .int .i64 mm] (by rfl) rfl rfl (by (try simp only [List.map_toArray, List.map_cons, List.map_nil]); first | done | rfl | (simp only [List.length_drop, List.length_take]; rfl)) ?_
 with_reducible refine (trace_Draw.calls A4 c4 L x nn fr mm s _ (Kd.C_below C4 hHeld) le4 hD).mono ?_
 rintro e w5 ⟨rfl, hb5⟩
 refine ⟨_, rfl, ?_⟩
 refine hK.out _ _ (below_step hHeld hb5) (fun hHeld => ?_)
 clear hK K
 refine norm_ (a' := ?_) ?_ ?_
 rotate_left
 · show Act.put _ (some 25) _ = _
   simp only [Act.put, List.setIfInBounds_toArray, List.set_cons_zero, List.set_cons_succ, i64_w, i32_w]
   rfl
 refine one_ (i := 8) (N := some 27) #[true, true, true, true, true, true, true, true, true, true, true, true, true, true, false, false, false, false, false, false] rfl rfl (one_of HT_.out (by kernel_rfl)) (by decide) (fun K hK => ?_)
 refine goes_ Tryd.func11 (by kernel_rfl) rfl #[.slice A4 L.length c4] (by rfl) rfl rfl (by (try simp only [List.map_toArray, List.map_cons, List.map_nil]); first | done | rfl | (simp only [List.length_drop, List.length_take]; rfl)) ?_
 with_reducible refine (berthinglaw32_Own.calls k A4 c4 L LR _ (Kd.C_below C4 hHeld) le4 hO).mono ?_
 rintro e w6 ⟨v6, rfl, R6, hb6⟩
 obtain ⟨A6, c6, rfl, le6, C6⟩ := Kd.R_reads R6
 refine ⟨_, rfl, ?_⟩
 refine hK.out _ _ (below_step hHeld hb6) (fun hHeld => ?_)
 clear hK K
 refine norm_ (a' := ?_) ?_ ?_
 rotate_left
 · show Act.put _ (some 27) _ = _
   simp only [Act.put, List.setIfInBounds_toArray, List.set_cons_zero, List.set_cons_succ, i64_w, i32_w]
   rfl
 refine one_ (i := 14) (N := some 33) #[true, true, true, true, true, true, true, true, true, true, true, true, true, true, true, false, false, false, false, false] rfl rfl (one_of HT_.out (by kernel_rfl)) (by decide) (fun K hK => ?_)
 refine goes_ Tryd.func15 (by kernel_rfl) rfl #[.slice A6 LR.length c6, .int .i64 x, .int .i64 nn, .int .i64 fr, .int .i64 mm] (by rfl) rfl rfl (by (try simp only [List.map_toArray, List.map_cons, List.map_nil]); first | done | rfl | (simp only [List.length_drop, List.length_take]; rfl)) ?_
 with_reducible refine (berthingref32_Draw.calls k A6 c6 LR x nn fr mm s _ C6 le6 hR).mono ?_
 rintro e w7 ⟨rfl, hb7⟩
 refine ⟨_, rfl, ?_⟩
 refine hK.out _ _ (below_step hHeld hb7) (fun hHeld => ?_)
 clear hK K
 refine norm_ (a' := ?_) ?_ ?_
 rotate_left
 · show Act.put _ (some 33) _ = _
   simp only [Act.put, List.setIfInBounds_toArray, List.set_cons_zero, List.set_cons_succ, i64_w, i32_w]
   rfl
 refine pure_ (i := 15) (N := some 34) (v := ?_) (a' := ?_) #[true, true, true, true, true, true, true, true, true, true, true, true, true, true, true, true, false, false, false, false] rfl rfl (any_of HT_.out (by kernel_rfl)) (fun _ _ _ h => h) (Or.inl ⟨by rfl, ?_⟩) ?_ ?_
 rotate_left
 · intro w'
   go_simp
   with_reducible rfl
 rotate_left
 · simp only [Act.put, List.setIfInBounds_toArray, List.set_cons_zero, List.set_cons_succ, i64_w, i32_w]
   rfl
 refine pure_ (i := 16) (N := some 35) (v := ?_) (a' := ?_) #[true, true, true, true, true, true, true, true, true, true, true, true, true, true, true, true, true, false, false, false] rfl rfl (any_of HT_.out (by kernel_rfl)) (fun _ _ _ h => h) (Or.inl ⟨by rfl, ?_⟩) ?_ ?_
 rotate_left
 · intro w'
   go_simp
   with_reducible rfl
 rotate_left
 · simp only [Act.put, List.setIfInBounds_toArray, List.set_cons_zero, List.set_cons_succ, i64_w, i32_w]
   rfl
 refine one_ (i := 17) (N := some 36) #[true, true, true, true, true, true, true, true, true, true, true, true, true, true, true, true, true, true, false, false] rfl rfl (one_of HT_.out (by kernel_rfl)) (by decide) (fun K hK => ?_)
 refine goes_ Tryd.func12 (by kernel_rfl) rfl #[] (by rfl) rfl rfl (by (try simp only [List.map_toArray, List.map_cons, List.map_nil]); first | done | rfl | (simp only [List.length_drop, List.length_take]; rfl)) ?_
 with_reducible refine (berthinglaw32_one.calls k true _ (Cur.ErrT.go (below_step W4b hHeld) hT) hone).mono ?_
 rintro e w8 ⟨rfl, hb8⟩
 refine ⟨_, rfl, ?_⟩
 refine hK.out _ _ (below_step hHeld hb8) (fun hHeld => ?_)
 clear hK K
 refine norm_ (a' := ?_) ?_ ?_
 rotate_left
 · show Act.put _ (some 36) _ = _
   simp only [Act.put, List.setIfInBounds_toArray, List.set_cons_zero, List.set_cons_succ, i64_w, i32_w]
   rfl
 refine pure_ (i := 18) (N := some 37) (v := ?_) (a' := ?_) #[true, true, true, true, true, true, true, true, true, true, true, true, true, true, true, true, true, true, true, false] rfl rfl (any_of HT_.out (by kernel_rfl)) (fun _ _ _ h => h) (Or.inl ⟨by rfl, ?_⟩) ?_ ?_
 rotate_left
 · intro w'
   go_simp
   with_reducible rfl
 rotate_left
 · simp only [Act.put, List.setIfInBounds_toArray, List.set_cons_zero, List.set_cons_succ, i64_w, i32_w]
   rfl
 refine pure_ (i := 19) (N := some 6) (v := ?_) (a' := ?_) #[true, true, true, true, true, true, true, true, true, true, true, true, true, true, true, true, true, true, true, true] rfl rfl (any_of HT_.out (by kernel_rfl)) (fun _ _ _ h => h) (Or.inl ⟨by rfl, ?_⟩) ?_ ?_
 rotate_left
 · intro w'
   go_simp
   with_reducible rfl
 rotate_left
 · simp only [Act.put, List.setIfInBounds_toArray, List.set_cons_zero, List.set_cons_succ, i64_w, i32_w]
   rfl
 refine done_ (done_of HT_.out (by kernel_rfl)) ?_
 go_wp2
 go_ret
 exact ⟨rfl, below_step W4b hHeld⟩
--END
end Go.Proofs.YtdpomgfibjlehaaDoor.Tr

set_option linter.unusedVariables false
set_option linter.unusedSimpArgs false
/- TraceDraws: what its walk asks holds of any events. -/
namespace Go.Proofs.YtdpomgfibjlehaaDoor.Tr
open Go Go.Proofs Go.RowKit Go.Lib Go.Proofs.CodBytes Go.Proofs.BitsPlain Go.Proofs.YtdpomgfibjlehaaDoorW.PrintWords Go.Proofs.YtdpomgfibjlehaaDoorW.PrintLast Go.Proofs.YtdpomgfibjlehaaDoorW.PrintMore Go.Proofs.YtdpomgfibjlehaaDoor.PTr Go.Proofs.YtdpomgfibjlehaaDoor.CodSame Go.Proofs.YtdpomgfibjlehaaDoor.Cur

theorem max_min_le (hi x : Int) (h : -5 ≤ hi) : maxL (-5) (minL x hi) ≤ hi := by unfold maxL minL; split <;> (split <;> omega)
theorem TraceDraws_walk (a0 : Option Addr) (c0 : Nat) (l0 : List S46) (fr x y z : Int) (w : World) (hr0 : Kd.C k46 w a0 l0.length l0) (hc0 : l0.length ≤ c0) (hl : ∀ x ∈ l0, EvOk x) (hfr : I64 fr) (hE : Cur.ErrT w) :
    Calls Tryd.prog 4 #[.slice a0 l0.length c0, .int .i64 fr, .agg #[.int .i64 x, .int .i64 y, .int .i64 z]] w fun e w' => e = .returned (.bool true) ∧ Below w.heap.size w w' := by
  have hn := C_few hr0
  have hT : berthinglaw32_Tame.f l0 16 = some (tameL l0 16) := by unfold berthinglaw32_Tame.f; rw [if_pos ⟨hn, by decide, by decide⟩]
  have h16 : (tameL l0 16).length ≤ 16 := tameL_len l0 16
  obtain ⟨hy, hf⟩ : (∀ x ∈ tameL l0 16, EvOk x ∧ rightB x = true ∧ x.f4 < 1000000) ∧ fineL (tameL l0 16) = true := tameL_ok l0 16 (by omega) hl
  have hrs : ∀ r ∈ rowsL (tameL l0 16), RowOk r := by
    intro r hr
    obtain ⟨e, he, j1, j2, j3⟩ := rows_mem hr
    have h3 := (hy e he).1.2.2.2.1
    have hr' := (hy e he).2.1
    unfold rightB at hr'
    have h0 : 1 ≤ e.f0 := (of_decide_eq_true hr').1
    unfold RowOk
    rw [j1, j3]
    exact ⟨Int.le_trans (by decide) h0, h3⟩
  have hD : trace_Draw.f (tameL l0 16) x (maxL (-5) (minL y 9)) fr (maxL (-5) (minL z 40)) = some (strOfNums (drawL (tameL l0 16) x (maxL (-5) (minL y 9)) fr (maxL (-5) (minL z 40)))) := by
    unfold trace_Draw.f; rw [if_pos (by omega)]
  have hO := own_f (tameL l0 16) (by omega) 20000 (by omega)
  have hR := refdraw_f (tameL l0 16) h16 hrs x (maxL (-5) (minL y 9)) fr (maxL (-5) (minL z 40)) hfr (max_min_le 9 y (by omega)) (max_min_le 40 z (by omega)) 20000 (by omega)
  exact TraceDraws_go 20000 a0 c0 l0 fr x y z (tameL l0 16) _ _ w hE hr0 hc0 hT hD hO hR (one_f 20000 (by omega))
set_option maxRecDepth 100000 in
theorem open3 {W : World} {b : Nat} {v : Value} (h : Value.okWide Tryd.prog W .any b 39 v) : ∃ x y z, v = .agg #[.int .i64 x, .int .i64 y, .int .i64 z] := by
  have h2 := h
  unfold Value.okWide at h2
  simp only [Tryd.underlying39] at h2
  obtain ⟨cs, rfl, hs, ts, hts, _, hc⟩ := h2
  have e1 : Tryd.prog.cellTypes Tryd.prog.depth 39 = some [3, 3, 3] := by kernel_rfl
  have e2 : Tryd.prog.cellsOf 39 = 3 := by kernel_rfl
  obtain rfl := Option.some.inj (e1.symm.trans hts)
  rw [e2] at hs
  have hi : ∀ i c, cs[i]? = some c → i < 3 → ∃ n, c = .int .i64 n := by
    intro i c hg hi3
    obtain ⟨u, hu, hok⟩ := hc i c hg
    have hu3 : u = 3 := by
      rcases (show i = 0 ∨ i = 1 ∨ i = 2 by omega) with rfl | rfl | rfl <;> exact (Option.some.inj hu).symm
    subst hu3
    exact Go.WideShapes.okWide_int (P := Tryd.prog) Tryd.underlying3 (by unfold Value.okWide; simp only [Tryd.underlying3]; exact hok)
  obtain ⟨l⟩ := cs
  match l, hs, hi with
  | [a, b, c], _, hi =>
    obtain ⟨x, rfl⟩ := hi 0 a rfl (by omega)
    obtain ⟨y, rfl⟩ := hi 1 b rfl (by omega)
    obtain ⟨z, rfl⟩ := hi 2 c rfl (by omega)
    exact ⟨x, y, z, rfl⟩
end Go.Proofs.YtdpomgfibjlehaaDoor.Tr
