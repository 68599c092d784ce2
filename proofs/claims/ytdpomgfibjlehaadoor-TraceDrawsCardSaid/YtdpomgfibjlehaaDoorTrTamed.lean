/- A part of the proofs over trace (TrTamed): contracts of the program's functions and plain laws. Conditions: those that each theorem states. -/
import Derived.Test.YtdpomgfibjlehaaDoorTrPlain
import Derived.Test.YtdpomgfibjlehaaDoorTrTame
import Derived.Test.YtdpomgfibjlehaaDoorTrRead
set_option linter.unusedVariables false
set_option linter.unusedSimpArgs false
/- What is laid is read again; what is cut by a byte, or has one more, is not. Events that are tame are fine. -/
namespace Go.Proofs.YtdpomgfibjlehaaDoor.Tr
open Go Go.Proofs Go.RowKit Go.Lib Go.Proofs.CodBytes Go.Proofs.YtdpomgfibjlehaaDoorW.PrintWords Go.Proofs.YtdpomgfibjlehaaDoorW.PrintLast Go.Proofs.YtdpomgfibjlehaaDoorW.PrintMore Go.Proofs.YtdpomgfibjlehaaDoor.PTr Go.Proofs.YtdpomgfibjlehaaDoor.CodSame Go.Proofs.YtdpomgfibjlehaaDoor.Cur

theorem pow7 (i : Nat) : (2 : Nat) ^ (7 * (i + 1)) = 128 * 2 ^ (7 * i) := by rw [show 7 * (i + 1) = 7 + 7 * i by omega, Nat.pow_add]
theorem grp_enc (r : List Int) : ∀ (n i : Nat) (u V : Nat), i + n = 9 → u < 2 ^ (7 * i) → u + V * 2 ^ (7 * i) < 18446744073709551616 → (0 < i → 0 < V) →
    grpGo (enc n (V : Int) ++ r) i (u : Int) = (0, ((u + V * 2 ^ (7 * i) : Nat) : Int), r)
  | 0, i, u, V, hi, hu, hU, hz => by
    obtain rfl : i = 9 := by omega
    have hV : V = 1 := by
      have := hz (by omega)
      have e63 : (2 : Nat) ^ (7 * 9) = 9223372036854775808 := by decide
      rw [e63] at hU
      omega
    subst hV
    have h7 := (step7 u 1 9 (by omega) hu (by omega) (fun _ => by omega)).1
    simp only [enc, List.cons_append, List.nil_append, grpGo]
    rw [if_neg (by omega), if_pos (by omega)]
    rw [show ((1 : Nat) : Int) = 1 from rfl] at *
    rw [h7]
  | n + 1, i, u, V, hi, hu, hU, hz => by
    have hi8 : i ≤ 8 := by omega
    by_cases hV : (V : Int) ≥ 128
    · rw [enc, if_pos hV]
      obtain ⟨X, hX⟩ : ∃ X : Nat, X = V % 128 + 128 := ⟨_, rfl⟩
      have eX : (V : Int) % 128 + 128 = (X : Int) := by omega
      have eD : (V : Int) / 128 = ((V / 128 : Nat) : Int) := by omega
      rw [eX, eD]
      have hX1 : X < 256 := by omega
      have hX2 : 128 ≤ X := by omega
      have hXm : X % 128 = V % 128 := by omega
      have h7 := step7 u X i (by omega) hu hX1 (fun h => by omega)
      rw [hXm] at h7
      rw [List.cons_append, grpGo, if_neg (by omega), if_neg (by omega), h7.1]
      have hsum : u + V % 128 * 2 ^ (7 * i) + V / 128 * 2 ^ (7 * (i + 1)) = u + V * 2 ^ (7 * i) := by
        rw [pow7]
        have e : V = 128 * (V / 128) + V % 128 := (Nat.div_add_mod V 128).symm
        generalize 2 ^ (7 * i) = p
        generalize hq : V / 128 = q at *
        generalize hm : V % 128 = m at *
        rw [e, Nat.add_mul, Nat.mul_assoc, ← Nat.mul_assoc q 128 p, Nat.mul_comm q 128, Nat.mul_assoc]
        omega
      have ih := grp_enc r n (i + 1) (u + V % 128 * 2 ^ (7 * i)) (V / 128) (by omega) h7.2.2.1 (by rw [hsum]; exact hU) (fun _ => by omega)
      rw [ih, hsum]
    · rw [enc, if_neg hV]
      have h7 := (step7 u V i (by omega) hu (by omega) (fun h => by omega)).1
      simp only [List.cons_append, List.nil_append, grpGo]
      rw [if_neg (by omega), if_pos (by omega), h7, show V % 128 = V by omega]
theorem grp_pre : ∀ (n i : Nat) (u V : Int) (j : Nat), j < (enc n V).length → (grpGo ((enc n V).take j) i u).1 ≠ 0
  | 0, i, u, V, j, hj => by
    simp only [enc, List.length_cons, List.length_nil] at hj
    obtain rfl : j = 0 := by omega
    simp [grpGo]
  | n + 1, i, u, V, j, hj => by
    by_cases hV : V ≥ 128
    · rw [enc, if_pos hV] at hj ⊢
      cases j with
      | zero => simp [grpGo]
      | succ j =>
        rw [List.take_succ_cons, grpGo]
        split
        · decide
        · rw [if_neg (by omega)]
          exact grp_pre n (i + 1) _ (V / 128) j (by simp only [List.length_cons] at hj; omega)
    · rw [enc, if_neg hV] at hj ⊢
      simp only [List.length_cons, List.length_nil] at hj
      obtain rfl : j = 0 := by omega
      simp [grpGo]
theorem int_back (v : Int) (hv : I64 v) (r : List Int) : intOf (bytesI v ++ r) 0 = (v, r, 0) := by
  have hf := fold_range v hv.1 hv.2
  obtain ⟨V, hV⟩ : ∃ V : Nat, foldI v = (V : Int) := ⟨(foldI v).toNat, by omega⟩
  have h := grp_enc r 9 0 0 V (by omega) (by omega) (by omega) (by omega)
  unfold Cur.intOf bytesI
  rw [if_pos rfl, hV]
  rw [show ((0 : Nat) : Int) = 0 from rfl] at h
  rw [h]
  have e : ((0 + V * 2 ^ (7 * 0) : Nat) : Int) = foldI v := by rw [hV]; simp
  show (unf ((0 + V * 2 ^ (7 * 0) : Nat) : Int), r, (0 : Int)) = _
  rw [e, unf_unfI _ hf.1 hf.2, unf_fold v hv.1 hv.2]
theorem int_cut (v : Int) (j : Nat) (hj : j < (bytesI v).length) : (intOf ((bytesI v).take j) 0).2.2 ≠ 0 := by
  unfold Cur.intOf
  rw [if_pos rfl]
  exact grp_pre 9 0 0 (foldI v) j hj
theorem bytesI_pos (v : Int) : 1 ≤ (bytesI v).length := (enc_length 9 _).2
theorem int_droplast (v : Int) : (intOf (bytesI v).dropLast 0).2.2 ≠ 0 := by
  rw [List.dropLast_eq_take]
  exact int_cut v _ (by have := bytesI_pos v; omega)

/-- an event of fine ones -/
theorem ev_back (x : S46) (hx : EvOk x) (hr : rightB x = true) (last : Int) (h0 : 0 ≤ last) (hle : last ≤ x.f4) :
    (0 ≤ wrap64 (x.f4 - last) ∧ wrap64 (x.f4 - last) < 1099511627776) ∧ last + wrap64 (x.f4 - last) = x.f4 ∧ evOf x.f4 x.f0 x.f1 x.f2 (wrap64 x.f3) x.f6 = x := by
  unfold rightB at hr
  have hr := of_decide_eq_true hr
  obtain ⟨r0, r1, r2, r3, r4, r5, r6, r7, r8, r9, r10⟩ := hr
  obtain ⟨e0, e1, e2, e3, e4, e6⟩ := hx
  have ew : wrap64 (x.f4 - last) = x.f4 - last := by unfold wrap64; omega
  refine ⟨by omega, by omega, ?_⟩
  have e : IntKind.u64.wrap (wrap64 x.f3) = x.f3 := by rw [IntKind.wrap_u64]; unfold wrap64; omega
  unfold evOf
  rw [e, ← r10]
theorem layN_numsE (last : Int) (x : S46) (t : List Int) : layN (numsE last x) ++ t = bytesI (wrap64 (x.f4 - last)) ++ (bytesI x.f0 ++ (bytesI x.f1 ++ (bytesI x.f2 ++ (bytesI (wrap64 x.f3) ++ (bytesI x.f6 ++ t))))) := by
  simp only [numsE, layN, List.flatMap_cons, List.flatMap_nil, List.append_assoc, List.nil_append]
theorem rd_one (x : S46) (hx : EvOk x) (hr : rightB x = true) (last : Int) (h0 : 0 ≤ last) (hle : last ≤ x.f4) (n : Nat) (t : List Int) (out : List S46) :
    rdLoop (n + 1) (layN (numsE last x) ++ t) 0 last out = rdLoop n t 0 x.f4 (out ++ [x]) := by
  obtain ⟨q1, q2, q3⟩ := ev_back x hx hr last h0 hle
  obtain ⟨e0, e1, e2, e3, e4, e6⟩ := hx
  rw [layN_numsE, rdLoop_eq (int_back _ (i64_wrap _) _) (int_back _ e0 _) (int_back _ e1 _) (int_back _ e2 _) (int_back _ (i64_wrap _) _) (int_back _ e6 _), if_pos q1, q2, q3, if_pos hr]
/-- so many events of a list that rises from a time -/
def From (last : Int) (l : List S46) : Prop := 0 ≤ last ∧ (∀ x ∈ l, EvOk x ∧ rightB x = true) ∧ risesB' last l = true
theorem From.tail {last : Int} {x : S46} {r : List S46} (h : From last (x :: r)) : EvOk x ∧ rightB x = true ∧ last ≤ x.f4 ∧ From x.f4 r := by
  obtain ⟨h0, h1, h2⟩ := h
  rw [risesB', Bool.and_eq_true, decide_eq_true_eq] at h2
  have hx := h1 x (List.mem_cons_self ..)
  exact ⟨hx.1, hx.2, h2.1, Int.le_trans h0 h2.1, fun y hy => h1 y (List.mem_cons_of_mem _ hy), h2.2⟩
theorem rd_all (t : List Int) : ∀ (l : List S46) (last : Int) (out : List S46), From last l → rdLoop l.length (layN (putG last l) ++ t) 0 last out = finR t 0 (out ++ l)
  | [], last, out, h => by simp [putG, layN, rdLoop]
  | x :: r, last, out, h => by
    obtain ⟨hx, hr, hle, hf⟩ := h.tail
    rw [putG, layN_append, List.append_assoc, List.length_cons, rd_one x hx hr last h.1 hle, rd_all t r x.f4 _ hf, List.append_assoc]; rfl
theorem layN_pos (ns : List Int) (h : ns ≠ []) : layN ns ≠ [] := by
  cases ns with
  | nil => exact absurd rfl h
  | cons v r =>
    rw [layN_cons]
    intro h0
    have h1 := bytesI_pos v
    have h2 := congrArg List.length h0
    rw [List.length_append, List.length_nil] at h2
    omega
theorem rd_cut1 (x : S46) (hx : EvOk x) (hr : rightB x = true) (last : Int) (h0 : 0 ≤ last) (hle : last ≤ x.f4) (out : List S46) :
    rdLoop 1 (layN (numsE last x)).dropLast 0 last out = ([], 11) := by
  obtain ⟨q1, q2, q3⟩ := ev_back x hx hr last h0 hle
  obtain ⟨e0, e1, e2, e3, e4, e6⟩ := hx
  have hd : (layN (numsE last x)).dropLast = bytesI (wrap64 (x.f4 - last)) ++ (bytesI x.f0 ++ (bytesI x.f1 ++ (bytesI x.f2 ++ (bytesI (wrap64 x.f3) ++ (bytesI x.f6).dropLast)))) := by
    have := layN_numsE last x []
    rw [List.append_nil, List.append_nil] at this
    have hb := bytesI_pos x.f6
    rw [this]
    have hne : bytesI x.f6 ≠ [] := by intro h; rw [h] at hb; simp at hb
    rw [List.dropLast_append_of_ne_nil (by simp [hne]), List.dropLast_append_of_ne_nil (by simp [hne]), List.dropLast_append_of_ne_nil (by simp [hne]), List.dropLast_append_of_ne_nil (by simp [hne]), List.dropLast_append_of_ne_nil hne]
  have h6 := int_droplast x.f6
  obtain ⟨⟨v5, b5, e5⟩, h5⟩ : ∃ p, intOf (bytesI x.f6).dropLast 0 = p := ⟨_, rfl⟩
  rw [h5] at h6
  rw [hd, rdLoop_eq (int_back _ (i64_wrap _) _) (int_back _ e0 _) (int_back _ e1 _) (int_back _ e2 _) (int_back _ (i64_wrap _) _) h5, if_pos q1]
  split
  · have h6' : e5 ≠ 0 := h6
    have he : endOf b5 e5 = e5 := by unfold endOf; rw [if_neg (fun hh => h6' hh.1)]
    rw [rdLoop, finR, he, if_neg h6']
  · rfl
theorem rd_cut : ∀ (l : List S46) (last : Int) (out : List S46), l ≠ [] → From last l → rdLoop l.length (layN (putG last l)).dropLast 0 last out = ([], 11)
  | [], last, out, hn, h => absurd rfl hn
  | [x], last, out, hn, h => by
    obtain ⟨hx, hr, hle, hf⟩ := h.tail
    rw [putG, putG, List.append_nil]
    exact rd_cut1 x hx hr last h.1 hle out
  | x :: y :: r, last, out, hn, h => by
    obtain ⟨hx, hr, hle, hf⟩ := h.tail
    have hne : layN (putG x.f4 (y :: r)) ≠ [] := layN_pos _ (by rw [putG]; simp [numsE])
    rw [putG, layN_append, List.dropLast_append_of_ne_nil hne, List.length_cons, rd_one x hx hr last h.1 hle]
    exact rd_cut (y :: r) x.f4 _ (by simp) hf
theorem small_back (n : Nat) (hn : n ≤ 65536) (t : List Int) : smallOf 65536 (bytesI (n : Int) ++ t) 0 = ((n : Int), t, 0) := by
  unfold smallOf
  rw [int_back (n : Int) (by unfold I64; omega) t]
  dsimp only
  rw [if_neg (by omega)]
theorem read_all (l : List S46) (hn : l.length ≤ 65536) (h : From 0 l) (t : List Int) : readL (layN (putN l) ++ t) = finR t 0 l := by
  unfold readL putN
  rw [layN_cons, List.append_assoc, small_back l.length hn]
  dsimp only
  rw [Int.toNat_natCast, rd_all t l 0 [] h, List.nil_append]
theorem read_back (l : List S46) (hn : l.length ≤ 65536) (h : From 0 l) : readL (layN (putN l)) = (l, 0) := by
  have := read_all l hn h []
  rw [List.append_nil] at this
  rw [this]; rfl
theorem read_more (l : List S46) (hn : l.length ≤ 65536) (h : From 0 l) : readL (layN (putN l) ++ [0]) = ([], 11) := by
  rw [read_all l hn h [0]]; rfl
theorem read_cut (l : List S46) (hn : l.length ≤ 65536) (h : From 0 l) : readL (layN (putN l)).dropLast = ([], 11) := by
  unfold readL putN
  by_cases hl : l = []
  · subst hl
    kernel_rfl
  · have hne : layN (putG 0 l) ≠ [] := layN_pos _ (by cases l with | nil => exact absurd rfl hl | cons x r => rw [putG]; simp [numsE])
    rw [layN_cons, List.dropLast_append_of_ne_nil hne, small_back l.length hn]
    dsimp only
    rw [Int.toNat_natCast, rd_cut l 0 [] hl h]

theorem fine_from (l : List S46) (h : ∀ x ∈ l, EvOk x) (hf : fineL l = true) : From 0 l := by
  unfold fineL at hf
  rw [Bool.and_eq_true, List.all_eq_true] at hf
  refine ⟨Int.le_refl _, fun x hx => ⟨h x hx, hf.1 x hx⟩, ?_⟩
  cases l with
  | nil => rfl
  | cons x r =>
    rw [risesB', Bool.and_eq_true, decide_eq_true_eq]
    have hx := hf.1 x (List.mem_cons_self ..)
    unfold rightB at hx
    have hx := of_decide_eq_true hx
    exact ⟨hx.2.2.2.2.2.2.1, by rw [← rises_cons]; exact hf.2⟩

theorem tameE_ok (a : Int) (ha : 0 ≤ a ∧ a < 1000000) (x : S46) (hx : EvOk x) : EvOk (tameE a x) ∧ rightB (tameE a x) = true := by
  have h0 := msk_range x.f0 15 (by omega)
  have h1 := msk_range x.f1 1 (by omega)
  have h2 := msk_range x.f2 7 (by omega)
  have h6 := msk_range x.f6 7 (by omega)
  obtain ⟨m0, g0⟩ : ∃ m, msk x.f0 15 = m := ⟨_, rfl⟩
  obtain ⟨m1, g1⟩ : ∃ m, msk x.f1 1 = m := ⟨_, rfl⟩
  obtain ⟨m2, g2⟩ : ∃ m, msk x.f2 7 = m := ⟨_, rfl⟩
  obtain ⟨m6, g6⟩ : ∃ m, msk x.f6 7 = m := ⟨_, rfl⟩
  have e0 : msk x.f0 ((15 : Nat) : Int) = m0 := g0
  have e1 : msk x.f1 ((1 : Nat) : Int) = m1 := g1
  have e2 : msk x.f2 ((7 : Nat) : Int) = m2 := g2
  have e6 : msk x.f6 ((7 : Nat) : Int) = m6 := g6
  rw [e0] at h0
  rw [e1] at h1
  rw [e2] at h2
  rw [e6] at h6
  obtain ⟨q0, q1, q2, q3, q4, q6⟩ := hx
  unfold tameE
  rw [g0, g1, g2, g6]
  refine ⟨⟨?_, ?_, ?_, q3, ?_, ?_⟩, ?_⟩
  · unfold I64; dsimp only; omega
  · unfold I64; dsimp only; omega
  · unfold I64; dsimp only; omega
  · unfold I64; dsimp only; omega
  · unfold I64; dsimp only; omega
  · unfold rightB
    refine decide_eq_true ?_
    dsimp only
    refine ⟨by omega, by omega, by omega, by omega, by omega, by omega, by omega, by omega, by omega, by omega, rfl⟩
theorem tameG_len : ∀ (a : Int) (l : List S46), (tameG a l).length = l.length
  | _, [] => rfl
  | a, x :: r => by rw [tameG, List.length_cons, tameG_len _ r, List.length_cons]
theorem tameG_ok : ∀ (l : List S46) (a : Int), 0 ≤ a → a + 7 * (l.length : Int) < 1000000 → (∀ x ∈ l, EvOk x) → (∀ x ∈ tameG a l, EvOk x ∧ rightB x = true ∧ a ≤ x.f4 ∧ x.f4 ≤ a + 7 * (l.length : Int)) ∧ risesB' a (tameG a l) = true
  | [], a, h0, hb, h => ⟨fun x hx => (by cases hx), rfl⟩
  | x :: r, a, h0, hb, h => by
    have h4 := msk_range x.f4 7 (by omega)
    obtain ⟨m, g⟩ : ∃ m, msk x.f4 7 = m := ⟨_, rfl⟩
    have e : msk x.f4 ((7 : Nat) : Int) = m := g
    rw [e] at h4
    rw [tameG, g]
    rw [List.length_cons] at hb ⊢
    have ih := tameG_ok r (a + m) (by omega) (by omega) (fun y hy => h y (List.mem_cons_of_mem _ hy))
    have hE := tameE_ok (a + m) ⟨by omega, by omega⟩ x (h x (List.mem_cons_self ..))
    have h4' : (tameE (a + m) x).f4 = a + m := rfl
    refine ⟨fun y hy => ?_, ?_⟩
    · rcases List.mem_cons.1 hy with rfl | hy
      · rw [h4']; exact ⟨hE.1, hE.2, by omega, by omega⟩
      · have := ih.1 y hy
        exact ⟨this.1, this.2.1, by omega, by omega⟩
    · rw [risesB', h4', Bool.and_eq_true, decide_eq_true_eq]
      exact ⟨by omega, ih.2⟩
theorem tameL_len (l : List S46) (m : Nat) : (tameL l (m : Int)).length ≤ m := by
  unfold tameL; rw [tameG_len, List.length_take, Int.toNat_natCast]; omega
theorem tameL_ok (l : List S46) (m : Nat) (hm : m ≤ 65536) (h : ∀ x ∈ l, EvOk x) : (∀ x ∈ tameL l (m : Int), EvOk x ∧ rightB x = true ∧ x.f4 < 1000000) ∧ fineL (tameL l (m : Int)) = true := by
  have hk := tameG_ok (l.take m) 0 (by omega) (by rw [List.length_take]; omega) (fun x hx => h x (List.mem_of_mem_take hx))
  have e : tameL l (m : Int) = tameG 0 (l.take m) := by unfold tameL; rw [Int.toNat_natCast]
  rw [e]
  refine ⟨fun x hx => ?_, ?_⟩
  · have := hk.1 x hx
    rw [List.length_take] at this
    exact ⟨this.1, this.2.1, by omega⟩
  · unfold fineL
    rw [Bool.and_eq_true, List.all_eq_true]
    refine ⟨fun x hx => (hk.1 x hx).2.1, ?_⟩
    have h2 := hk.2
    generalize tameG 0 (l.take m) = t at h2
    cases t with
    | nil => rfl
    | cons y r => rw [risesB', Bool.and_eq_true] at h2; rw [rises_cons]; exact h2.2
end Go.Proofs.YtdpomgfibjlehaaDoor.Tr

set_option linter.unusedVariables false
set_option linter.unusedSimpArgs false
/- Two events in the other order; the index that is drawn. -/
namespace Go.Proofs.YtdpomgfibjlehaaDoor.Tr
open Go Go.Proofs Go.RowKit Go.Lib Go.Proofs.CodBytes Go.Proofs.YtdpomgfibjlehaaDoorW.PrintWords Go.Proofs.YtdpomgfibjlehaaDoorW.PrintLast Go.Proofs.YtdpomgfibjlehaaDoorW.PrintMore Go.Proofs.YtdpomgfibjlehaaDoor.PTr Go.Proofs.YtdpomgfibjlehaaDoor.CodSame Go.Proofs.YtdpomgfibjlehaaDoor.Cur
theorem C_few {w : World} {A : Option Addr} {l : List S46} (h : Kd.C k46 w A l.length l) : l.length < 9223372036854775808 := by
  have := h.2.1; omega
theorem index_K (n : Nat) (h2 : 2 ≤ n) (h40 : n ≤ 40) (a : Int) (ha : I64 a) : ∃ K : Nat, Int.tmod (wrap64 ((wrap64 ((Int.tmod a (wrap64 ((n : Int) - 1))) + (n : Int))) - 1)) (wrap64 ((n : Int) - 1)) = (K : Int) ∧ K + 1 < n := by
  have hw : wrap64 ((n : Int) - 1) = (n : Int) - 1 := by unfold wrap64; omega
  rw [hw]
  have t1 := Int.tmod_lt_of_pos a (show 0 < (n : Int) - 1 by omega)
  have t2 := Int.lt_tmod_of_pos a (show 0 < (n : Int) - 1 by omega)
  generalize Int.tmod a ((n : Int) - 1) = t at t1 t2
  have hw1 : wrap64 (t + (n : Int)) = t + (n : Int) := by unfold wrap64; omega
  have hw2 : wrap64 (t + (n : Int) - 1) = t + (n : Int) - 1 := by unfold wrap64; omega
  rw [hw1, hw2, Int.tmod_eq_emod_of_nonneg (by omega)]
  have m1 := Int.emod_nonneg (t + (n : Int) - 1) (show (n : Int) - 1 ≠ 0 by omega)
  have m2 := Int.emod_lt_of_pos (t + (n : Int) - 1) (show 0 < (n : Int) - 1 by omega)
  exact ⟨((t + (n : Int) - 1) % ((n : Int) - 1)).toNat, by omega, by omega⟩
theorem swap_fine (y : List S46) (K : Nat) (hK : K + 1 < y.length) (hy : ∀ x ∈ y, EvOk x ∧ rightB x = true) (hf : fineL y = true) :
    fineL ((y.set K y[K + 1]).set (K + 1) y[K]) = (y[K].f4 == y[K + 1].f4) := by
  unfold fineL at hf
  rw [Bool.and_eq_true] at hf
  have hr := (rises_at y).1 hf.2
  have hall : ((y.set K y[K + 1]).set (K + 1) y[K]).all rightB = true := by
    rw [List.all_eq_true]
    intro x hx
    rcases List.mem_or_eq_of_mem_set hx with hx | rfl
    · rcases List.mem_or_eq_of_mem_set hx with hx | rfl
      · exact (hy x hx).2
      · exact (hy _ (List.getElem_mem _)).2
    · exact (hy _ (List.getElem_mem _)).2
  unfold fineL
  rw [hall, Bool.true_and, Bool.eq_iff_iff, beq_iff_eq, rises_at]
  have hg : ∀ i (h : i < ((y.set K y[K + 1]).set (K + 1) y[K]).length), ((y.set K y[K + 1]).set (K + 1) y[K])[i] = if K + 1 = i then y[K] else if K = i then y[K + 1] else y[i]'(by simpa using h) := by
    intro i h
    rw [List.getElem_set, List.getElem_set]
  have hlen : ((y.set K y[K + 1]).set (K + 1) y[K]).length = y.length := by rw [List.length_set, List.length_set]
  constructor
  · intro h
    have h1 := h K (by rw [hlen]; exact hK)
    rw [hg, hg, if_neg (by omega), if_pos rfl, if_pos rfl] at h1
    have h2 := hr K hK
    omega
  · intro he i hi
    rw [hlen] at hi
    rw [hg, hg]
    have r0 := hr i hi
    have hk := hr K hK
    by_cases c1 : K + 1 = i
    · subst c1
      rw [if_pos rfl, if_neg (by omega), if_neg (by omega)]
      omega
    · rw [if_neg c1]
      by_cases c2 : K = i
      · subst c2
        rw [if_pos rfl, if_pos rfl]; omega
      · rw [if_neg c2, if_neg (by omega)]
        by_cases c3 : K = i + 1
        · subst c3
          rw [if_pos rfl]; omega
        · rw [if_neg c3]; exact r0
theorem swap_law (y : List S46) (K : Nat) (hK : K + 1 < y.length) (hy : ∀ x ∈ y, EvOk x ∧ rightB x = true) (hf : fineL y = true) :
    ((decide (((putL ((y.set K y[K + 1]).set (K + 1) y[K])).length : Int) > 0)) == (y[K].f4 == y[K + 1].f4)) = true := by
  have h := swap_fine y K hK hy hf
  unfold putL
  rw [h]
  by_cases he : (y[K].f4 == y[K + 1].f4) = true
  · rw [if_pos he, he]
    have hne : layN (putN ((y.set K y[K + 1]).set (K + 1) y[K])) ≠ [] := layN_pos _ (by unfold putN; simp)
    have := List.length_pos_iff.2 hne
    rw [decide_eq_true (by omega)]; rfl
  · rw [if_neg he, Bool.eq_false_iff.2 he]; rfl
end Go.Proofs.YtdpomgfibjlehaaDoor.Tr
