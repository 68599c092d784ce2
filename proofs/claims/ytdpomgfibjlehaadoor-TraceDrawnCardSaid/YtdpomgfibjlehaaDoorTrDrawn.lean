/- A part of the proofs over trace (TrDrawn): contracts of the program's functions and plain laws. Conditions: those that each theorem states. -/
import Derived.Test.YtdpomgfibjlehaaDoorTrCells
import Derived.Test.YtdpomgfibjlehaaDoorTrTamed
import Derived.Test.YtdpomgfibjlehaaDoorPTrx18
set_option linter.unusedVariables false
set_option linter.unusedSimpArgs false
/- The plain law of TraceDrawn. -/
namespace Go.Proofs.YtdpomgfibjlehaaDoor.Tr
open Go Go.Proofs Go.RowKit Go.Lib Go.Proofs.CodBytes Go.Proofs.BitsPlain Go.Proofs.YtdpomgfibjlehaaDoorW.PrintWords Go.Proofs.YtdpomgfibjlehaaDoorW.PrintLast Go.Proofs.YtdpomgfibjlehaaDoorW.PrintMore Go.Proofs.YtdpomgfibjlehaaDoor.PTr Go.Proofs.YtdpomgfibjlehaaDoor.CodSame Go.Proofs.YtdpomgfibjlehaaDoor.Cur

def mask8 (x : S46) : S46 := ⟨x.f0, x.f1, x.f2, Go.bits .and .u64 x.f3 255, x.f4, x.f5, x.f6⟩
theorem mask8_lt (x : S46) (h : EvOk x) : 0 ≤ (mask8 x).f3 ∧ (mask8 x).f3 < 256 := by
  obtain ⟨u, hu⟩ : ∃ u : Nat, x.f3 = (u : Int) := ⟨x.f3.toNat, by have := h.2.2.2.1.1; omega⟩
  have hu2 : u < 18446744073709551616 := by have := h.2.2.2.1.2; omega
  show 0 ≤ Go.bits .and .u64 x.f3 255 ∧ Go.bits .and .u64 x.f3 255 < 256
  rw [hu, show (255 : Int) = ((255 : Nat) : Int) from rfl, bits_and_u64_nat u 255 hu2 (by omega)]
  have := Nat.and_le_right (n := u) (m := 255)
  omega
def mid (y : List S46) (i : Nat) : List S46 := (y.take i).map mask8 ++ y.drop i
theorem mid_len (y : List S46) (i : Nat) (hi : i ≤ y.length) : (mid y i).length = y.length := by
  unfold mid; rw [List.length_append, List.length_map, List.length_take, List.length_drop]; omega
theorem mid_at (y : List S46) (i : Nat) (hi : i < y.length) (h : i < (mid y i).length) : (mid y i)[i] = y[i] := by
  have hl : ((y.take i).map mask8).length = i := by rw [List.length_map, List.length_take]; omega
  have e : (mid y i)[i]? = some y[i] := by
    unfold mid
    rw [List.getElem?_append_right (by omega), hl, Nat.sub_self, List.drop_eq_getElem_cons hi]; rfl
  rw [List.getElem?_eq_getElem h] at e
  exact Option.some.inj e
theorem mid_set (y : List S46) (i : Nat) (hi : i < y.length) : (mid y i).set i (mask8 y[i]) = mid y (i + 1) := by
  have hl : ((y.take i).map mask8).length = i := by rw [List.length_map, List.length_take]; omega
  unfold mid
  rw [List.set_append_right _ _ (by omega), hl, Nat.sub_self, List.drop_eq_getElem_cons hi, List.set_cons_zero, ← List.take_append_getElem hi, List.map_append, List.append_assoc]; rfl

theorem mask_l (y : List S46) (a1 a2 : Int) (h14 : y.length ≤ 14) (HE : Aside0 (∀ k : Nat, 1000 ≤ k → berthinglaw32_TraceDrawn.l0 k (mid y y.length) a1 a2 (y.length : Int) = some true)) :
    ∀ (d i k : Nat), i + d = y.length → d + 1000 ≤ k → berthinglaw32_TraceDrawn.l0 k (mid y i) a1 a2 (i : Int) = some true
  | 0, i, k, hi, hk => by
    obtain rfl : i = y.length := by omega
    exact HE.out k (by omega)
  | d + 1, i, k, hi, hk => by
    obtain ⟨k, rfl⟩ : ∃ m, k = m + 1 := ⟨k - 1, by omega⟩
    have hlt : i < y.length := by omega
    have hl := mid_len y i (by omega)
    have e : rd_T46 (mid y i) (i : Int) = y[i] := by rw [rd46 _ i (by omega), mid_at y i hlt]
    have c1 : (i : Int) < ((mid y i).length : Int) := by omega
    have c2 : 0 ≤ (i : Int) := by omega
    have ih := mask_l y a1 a2 h14 HE d (i + 1) k (by omega) (by omega)
    have hw := wrap_nat i (by omega)
    rw [berthinglaw32_TraceDrawn.l0, if_pos c1, if_pos c2, e, Int.toNat_natCast, hw]
    have hm : (⟨y[i].f0, y[i].f1, y[i].f2, Go.bits .and .u64 y[i].f3 255, y[i].f4, y[i].f5, y[i].f6⟩ : S46) = mask8 y[i] := rfl
    rw [hm, mid_set y i hlt]
    exact ih

theorem w_small (x : Int) (h0 : 0 ≤ x) (h1 : x < 1000000) : wrap64 x = x := by unfold wrap64; omega
theorem idx_f (i m kk : Nat) (hi : i < 8) (hm : m ≤ 31) (hk : kk < m) : wrap64 (wrap64 ((i : Int) * wrap64 ((m : Int) + 1)) + (kk : Int)) = ((i * (m + 1) + kk : Nat) : Int) := by
  have hmul : i * (m + 1) ≤ 7 * (m + 1) := Nat.mul_le_mul_right _ (by omega)
  have e : (i : Int) * ((m : Int) + 1) = ((i * (m + 1) : Nat) : Int) := by simp
  rw [w_small ((m : Int) + 1) (by omega) (by omega), e]
  generalize i * (m + 1) = P at hmul
  rw [w_small (P : Int) (by omega) (by omega), w_small ((P : Int) + (kk : Int)) (by omega) (by omega)]
  omega
theorem idx_lt (i m kk : Nat) (hi : i < 8) (hk : kk < m) : i * (m + 1) + kk < 8 * (m + 1) := by
  have hmul : i * (m + 1) ≤ 7 * (m + 1) := Nat.mul_le_mul_right _ (by omega)
  omega
def cntI (u i : Nat) : Nat := ((List.range i).filter fun j => u.testBit j).length
theorem cntI_succ (u i : Nat) : cntI u (i + 1) = cntI u i + (if u.testBit i = true then 1 else 0) := by
  unfold cntI
  rw [List.range_succ, List.filter_append, List.length_append]
  by_cases h : u.testBit i = true
  · rw [if_pos h]; simp [h]
  · rw [if_neg h]; simp [h]
theorem cntI_le (u i : Nat) : cntI u i ≤ i := by
  unfold cntI
  have := List.length_filter_le (fun j => u.testBit j) (List.range i)
  rw [List.length_range] at this; exact this
/-- one column -/
theorem col_l (z : List S46) (fr m : Nat) (s : ByteArray) (kk : Nat) (hkm : kk < m) (hm : m ≤ 31) (u : Nat) (hsz : s.size = 8 * (m + 1))
    (hc : ∀ i, i < 8 → (u.testBit i = true → 48 ≤ bt s ((i * (m + 1) + kk : Nat) : Int) ∧ bt s ((i * (m + 1) + kk : Nat) : Int) ≤ 57) ∧ (u.testBit i = false → bt s ((i * (m + 1) + kk : Nat) : Int) = 46))
    (hb : trace_Busy.f z 0 (wrap64 ((fr : Int) + (kk : Int))) = some (cntI u 8 : Int)) (R : Option Bool) (K : Nat)
    (hn : ∀ k : Nat, K ≤ k → berthinglaw32_TraceDrawn.l1 k z (fr : Int) (m : Int) s (wrap64 ((kk : Int) + 1)) = R) : ∀ (d i k : Nat), i + d = 8 → 2 * d + K + 1 ≤ k →
    berthinglaw32_TraceDrawn.l2 k z (fr : Int) (m : Int) s (kk : Int) (cntI u i : Int) (i : Int) = R
  | 0, i, k, hi, hk => by
    obtain ⟨k, rfl⟩ : ∃ m, k = m + 1 := ⟨k - 1, by omega⟩
    obtain rfl : i = 8 := by omega
    rw [berthinglaw32_TraceDrawn.l2, if_neg (by omega), hb, Option.bind_some, if_pos rfl]
    exact hn k (by omega)
  | d + 1, i, k, hi, hk => by
    obtain ⟨k, rfl⟩ : ∃ m, k = m + 1 := ⟨k - 1, by omega⟩
    obtain ⟨k, rfl⟩ : ∃ m, k = m + 1 := ⟨k - 1, by omega⟩
    have hi8 : i < 8 := by omega
    have hcl := cntI_le u i
    have ih := col_l z fr m s kk hkm hm u hsz hc hb R K hn d (i + 1) k (by omega) (by omega)
    have w1 := wrap_nat i (by omega)
    have w2 := wrap_nat (cntI u i) (by omega)
    have hlt := idx_lt i m kk hi8 hkm
    have c8 : (i : Int) < 8 := by omega
    obtain ⟨P, hP⟩ : ∃ P : Nat, i * (m + 1) + kk = P := ⟨_, rfl⟩
    have hidx := idx_f i m kk hi8 hm hkm
    obtain ⟨c1, c0⟩ := hc i hi8
    rw [hP] at c1 c0 hidx hlt
    have p1 : (P : Int) < (s.size : Int) := by rw [hsz]; exact Int.ofNat_lt.2 hlt
    rw [berthinglaw32_TraceDrawn.l2, if_pos c8, hidx, if_pos (Int.natCast_nonneg P), if_pos p1]
    cases hu : u.testBit i with
    | true =>
      have h48 := c1 hu
      rw [cntI_succ, if_pos hu] at ih
      rw [if_pos h48.1, berthinglaw32_TraceDrawn.j3, if_pos (decide_eq_true h48.2), w1, w2]
      exact ih
    | false =>
      have h46 := c0 hu
      rw [cntI_succ, hu, if_neg (by decide)] at ih
      rw [h46, if_neg (by decide), berthinglaw32_TraceDrawn.j3, if_neg (by decide), if_pos rfl, w1]
      exact ih
theorem cols_l (z : List S46) (fr m : Nat) (s : ByteArray) (hm : m ≤ 31) (u : Nat → Nat) (hsz : s.size = 8 * (m + 1))
    (hc : ∀ kk, kk < m → ∀ i, i < 8 → ((u kk).testBit i = true → 48 ≤ bt s ((i * (m + 1) + kk : Nat) : Int) ∧ bt s ((i * (m + 1) + kk : Nat) : Int) ≤ 57) ∧ ((u kk).testBit i = false → bt s ((i * (m + 1) + kk : Nat) : Int) = 46))
    (hb : ∀ kk : Nat, kk < m → trace_Busy.f z 0 (wrap64 ((fr : Int) + (kk : Int))) = some (cntI (u kk) 8 : Int)) : ∀ (d kk k : Nat), kk + d = m → 20 * d + 50 ≤ k →
    berthinglaw32_TraceDrawn.l1 k z (fr : Int) (m : Int) s (kk : Int) = some true
  | 0, kk, k, hi, hk => by
    obtain ⟨k, rfl⟩ : ∃ m, k = m + 1 := ⟨k - 1, by omega⟩
    rw [berthinglaw32_TraceDrawn.l1, if_neg (by omega), one_f k (by omega)]; rfl
  | d + 1, kk, k, hi, hk => by
    obtain ⟨k, rfl⟩ : ∃ m, k = m + 1 := ⟨k - 1, by omega⟩
    rw [berthinglaw32_TraceDrawn.l1, if_pos (by omega)]
    have := col_l z fr m s kk (by omega) hm (u kk) hsz (hc kk (by omega)) (hb kk (by omega)) (some true) (20 * d + 50) (fun k hk => by
      rw [wrap_nat kk (by omega)]; exact cols_l z fr m s hm u hsz hc hb d (kk + 1) k (by omega) hk) 8 0 k (by omega) (by omega)
    exact this

theorem time_f (fr kk m : Nat) (hfr : fr ≤ 255) (hm : m ≤ 31) (hkk : kk < m) : timeI (fr : Int) (kk : Int) = ((fr + kk : Nat) : Int) ∧ wrap64 ((fr : Int) + (kk : Int)) = ((fr + kk : Nat) : Int) := by
  have e : wrap64 ((fr : Int) + (kk : Int)) = ((fr + kk : Nat) : Int) := by rw [w_small _ (by omega) (by omega)]; omega
  refine ⟨?_, e⟩
  have h : ¬((fr : Int) ≥ 1099511627776) := by omega
  unfold timeI
  rw [if_neg h, e]
theorem drawL_f (z : List S46) (fr m : Nat) (hm : m ≤ 31) : drawL z 0 8 (fr : Int) (m : Int) = drawTo (ownP 0 (rowsL z)) (fr : Int) m 8 := by
  unfold drawL
  rw [show (max 0 (min (m : Int) 1024)).toNat = m by omega, show (max 0 (min (8 : Int) 64)).toNat = 8 from rfl]
theorem size_f (m : Nat) (hm : m ≤ 31) : ((8 * (m + 1) : Nat) : Int) = wrap64 (8 * wrap64 ((m : Int) + 1)) := by
  rw [w_small ((m : Int) + 1) (by omega) (by omega), w_small _ (by omega) (by omega)]; omega
theorem drawn_cols (z : List S46) (hz : z.length ≤ 14) (hev : ∀ r ∈ rowsL z, 0 ≤ r.nodes ∧ r.nodes < 256 ∧ 0 ≤ r.job) (fr m : Nat) (hfr : fr ≤ 255) (hm : m ≤ 31) :
    ∃ s, trace_Draw.f z 0 8 (fr : Int) (m : Int) = some s ∧ (s.size : Int) = wrap64 (8 * wrap64 ((m : Int) + 1)) ∧ ∀ k : Nat, 900 ≤ k → berthinglaw32_TraceDrawn.l1 k z (fr : Int) (m : Int) s 0 = some true := by
  have hjob : ∀ r ∈ ownP 0 (rowsL z), 0 ≤ r.job := fun r hr => (hev r (List.mem_filter.1 hr).1).2.2
  have hnod : ∀ r ∈ rowsL z, 0 ≤ r.nodes ∧ r.nodes < 18446744073709551616 := fun r hr => ⟨(hev r hr).1, by have := (hev r hr).2.1; omega⟩
  have hu8 : ∀ kk : Nat, useN 0 ((fr + kk : Nat) : Int) (rowsL z) 0 < 2 ^ 8 := fun kk => useN_lt 8 0 ((fr + kk : Nat) : Int) (rowsL z) 0 (by omega) (fun r hr => by have := hev r hr; omega)
  have hDl : (drawTo (ownP 0 (rowsL z)) (fr : Int) m 8).length = 8 * (m + 1) := drawTo_length _ _ _ _
  have hDb := drawTo_byte (ownP 0 (rowsL z)) hjob (fr : Int) m 8
  have hDg := fun (i kk : Nat) (hi : i < 8) (hkk : kk < m) => drawTo_get (ownP 0 (rowsL z)) (fr : Int) m 8 i kk hi hkk
  have hL := drawL_f z fr m hm
  generalize drawTo (ownP 0 (rowsL z)) (fr : Int) m 8 = D at hDl hDb hDg hL
  have hsize : (strOfNums D).size = 8 * (m + 1) := by rw [size_str, hDl]
  have hzl : z.length < 1099511627776 := by omega
  refine ⟨strOfNums D, by unfold trace_Draw.f; rw [if_pos hzl, hL], by rw [hsize]; exact size_f m hm, fun k hk => ?_⟩
  refine cols_l z fr m (strOfNums D) hm (fun kk => useN 0 ((fr + kk : Nat) : Int) (rowsL z) 0) hsize (fun kk hkk i hi => ?_) (fun kk hkk => ?_) m 0 k (Nat.zero_add m) (by omega)
  · have hg := hDg i kk hi hkk
    rw [(time_f fr kk m hfr hm hkk).1] at hg
    obtain ⟨hlt, hg'⟩ := List.getElem?_eq_some_iff.1 hg
    have hbt := bt_str D hDb (i * (m + 1) + kk) hlt
    have hd := cell_digit (ownP 0 (rowsL z)) hjob (i : Int) ((fr + kk : Nat) : Int) ⟨by omega, by omega⟩
    have hu := drawn_used 0 ((fr + kk : Nat) : Int) (rowsL z) hnod i (by omega)
    rw [hu] at hd
    rw [hbt, hg']
    exact hd
  · rw [(time_f fr kk m hfr hm hkk).2]
    unfold trace_Busy.f
    rw [if_pos hzl, busyU_eq 0 _ (rowsL z) hnod]
    exact len_fact ⟨_, hu8 kk⟩
theorem drawn_law (l : List S46) (a1 a2 : Int) (hn : l.length < 9223372036854775808) (hl : ∀ x ∈ l, EvOk x) (k : Nat) (hk : 2000 ≤ k) : berthinglaw32_TraceDrawn.f k l a1 a2 = some true := by
  have hT : berthinglaw32_Tame.f l 14 = some (tameL l 14) := by unfold berthinglaw32_Tame.f; rw [if_pos ⟨hn, by decide, by decide⟩]
  have h14 : (tameL l 14).length ≤ 14 := tameL_len l 14
  obtain ⟨hy, hf⟩ : (∀ x ∈ tameL l 14, EvOk x ∧ rightB x = true ∧ x.f4 < 1000000) ∧ fineL (tameL l 14) = true := tameL_ok l 14 (by omega) hl
  unfold berthinglaw32_TraceDrawn.f
  rw [hT, Option.bind_some]
  generalize tameL l 14 = y at h14 hy hf
  clear hT
  have hev : ∀ r ∈ rowsL (mid y y.length), 0 ≤ r.nodes ∧ r.nodes < 256 ∧ 0 ≤ r.job := by
    intro r hr
    obtain ⟨x, hx, j1, j2, j3⟩ := rows_mem hr
    unfold mid at hx
    rw [List.take_length, List.drop_length, List.append_nil] at hx
    obtain ⟨x', hx', rfl⟩ := List.mem_map.1 hx
    have h3 := mask8_lt x' (hy x' hx').1
    have hr' := (hy x' hx').2.1
    unfold rightB at hr'
    have h0 : 1 ≤ (mask8 x').f0 := (of_decide_eq_true hr').1
    rw [j1, j3]
    exact ⟨h3.1, h3.2, Int.le_trans (by decide) h0⟩
  have hzl := mid_len y y.length (Nat.le_refl _)
  refine mask_l y a1 a2 h14 ⟨fun k hk => ?_⟩ y.length 0 k (Nat.zero_add _) (by omega)
  obtain ⟨k, rfl⟩ : ∃ m, k = m + 1 := ⟨k - 1, by omega⟩
  have hz14 : (mid y y.length).length ≤ 14 := by omega
  have c1 : ¬((y.length : Int) < ((mid y y.length).length : Int)) := by omega
  have hk9 : 900 ≤ k := by omega
  have m1 : 0 ≤ Go.bits .and .i64 a1 255 ∧ Go.bits .and .i64 a1 255 ≤ ((255 : Nat) : Int) := msk_range a1 255 (by omega)
  have m2 : 0 ≤ Go.bits .and .i64 a2 31 ∧ Go.bits .and .i64 a2 31 ≤ ((31 : Nat) : Int) := msk_range a2 31 (by omega)
  rw [berthinglaw32_TraceDrawn.l0, if_neg c1]
  generalize Go.bits .and .i64 a1 255 = b1 at m1
  generalize Go.bits .and .i64 a2 31 = b2 at m2
  generalize mid y y.length = z at hev hz14
  obtain ⟨fr, rfl⟩ : ∃ fr : Nat, b1 = (fr : Int) := ⟨b1.toNat, (Int.toNat_of_nonneg m1.1).symm⟩
  obtain ⟨m, rfl⟩ : ∃ m : Nat, b2 = (m : Int) := ⟨b2.toNat, (Int.toNat_of_nonneg m2.1).symm⟩
  obtain ⟨s, h1, h2, h3⟩ := drawn_cols z hz14 hev fr m (Int.ofNat_le.1 m1.2) (Int.ofNat_le.1 m2.2)
  rw [h1, Option.bind_some, if_pos h2]
  exact h3 k hk9
theorem TraceDrawn_walk (a0 : Option Addr) (c0 : Nat) (l0 : List S46) (a1 a2 : Int) (w : World) (hr0 : Kd.C k46 w a0 l0.length l0) (hc0 : l0.length ≤ c0) (hl : ∀ x ∈ l0, EvOk x) (h1 : I64 a1) (h2 : I64 a2) (hE : Cur.ErrT w) :
    Calls Tryd.prog 6 #[.slice a0 l0.length c0, .int .i64 a1, .int .i64 a2] w fun e w' => e = .returned (.bool true) ∧ Below w.heap.size w w' :=
  berthinglaw32_TraceDrawn.calls 2000 a0 c0 l0 a1 a2 true w hE hr0 hc0 (drawn_law l0 a1 a2 (C_few hr0) hl 2000 (Nat.le_refl _))
end Go.Proofs.YtdpomgfibjlehaaDoor.Tr
