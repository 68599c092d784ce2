/- A part of the proofs over usage and fit (UPut): contracts of the program's functions and plain laws of levels. Conditions: those that each theorem states. -/
import Derived.Test.YtlddccmgamlccaaUF
import Derived.Test.YtlddccmgamlccaaUK
set_option linter.unusedVariables false
set_option linter.unusedSimpArgs false
/- Contracts of the reference's put and add: a row of the caller's own with one more in its place, new, or as it was. -/
namespace Go.Proofs.Ytlddccmgamlccaa.Us
open Go Go.Proofs Go.RowKit Go.Lib Go.Proofs.YtlddccmgamlccaaW.PrintWords Go.Proofs.YtlddccmgamlccaaW.PrintLast Go.Proofs.YtlddccmgamlccaaW.PrintMore Go.Proofs.YtlddccmgamlccaaW.PrintWords.Kd
/-- one more, in its place -/
def insU : List Int → Int → List Int
 | [], t => [t]
 | x :: r, t => if x < t then x :: insU r t else if x = t then x :: r else t :: x :: r
def RiseU (l : List Int) : Prop := l.Pairwise (· < ·)
theorem insU_mem (x t : Int) : ∀ l, x ∈ insU l t ↔ x ∈ l ∨ x = t
 | [] => by simp [insU]
 | y :: r => by
  unfold insU
  split
  ·rw [List.mem_cons, insU_mem x t r, List.mem_cons, or_assoc]
  ·split
   ·rename_i h
    subst h
    simp only [List.mem_cons]
    exact ⟨fun h => .inl h, fun h => h.elim id .inl⟩
   ·simp only [List.mem_cons]
    constructor
    ·rintro (h | h | h)
     ·exact .inr h
     ·exact .inl (.inl h)
     ·exact .inl (.inr h)
    ·rintro ((h | h) | h)
     ·exact .inr (.inl h)
     ·exact .inr (.inr h)
     ·exact .inl h
theorem insU_rise (t : Int) : ∀ l, RiseU l → RiseU (insU l t)
 | [], _ => List.pairwise_singleton _ _
 | y :: r, h => by
  have h' := List.pairwise_cons.1 h
  unfold insU
  split
  ·rename_i hy
   refine List.pairwise_cons.2 ⟨fun z hz => ?_, insU_rise t r h'.2⟩
   rcases (insU_mem z t r).1 hz with hz | hz
   ·exact h'.1 z hz
   ·omega
  ·split
   ·exact h
   ·refine List.pairwise_cons.2 ⟨fun z hz => ?_, h⟩
    rcases List.mem_cons.1 hz with hz | hz
    ·omega
    ·have := h'.1 z hz; omega
theorem insU_len (t : Int) : ∀ l, (insU l t).length ≤ l.length + 1
 | [] => by simp [insU]
 | y :: r => by
  have := insU_len t r
  unfold insU
  split
  ·simp only [List.length_cons]; omega
  ·split <;> simp only [List.length_cons] <;> omega
theorem insU_put (t : Int) (l : List Int) (h : ∀ x r, l = x :: r → t < x) : insU l t = t :: l := by
 cases l with
 | nil => rfl
 | cons x r =>
  have := h x r rfl
  unfold insU
  rw [if_neg (by omega), if_neg (by omega)]
theorem insU_at (t : Int) : ∀ (l : List Int) (i : Nat), i ≤ l.length → (∀ j (hj : j < l.length), j < i → l[j] < t) → (∀ h : i < l.length, ¬ l[i] < t ∧ l[i] ≠ t) → insU l t = l.take i ++ [t] ++ l.drop i
 | [], i, hi, _, _ => by
  obtain rfl : i = 0 := by simpa using hi
  rfl
 | x :: r, 0, _, _, h => by
  have h0 := h (by simp)
  simp only [List.getElem_cons_zero] at h0
  unfold insU
  rw [if_neg h0.1, if_neg h0.2]
  rfl
 | x :: r, i + 1, hi, hl, h => by
  have h0 : x < t := hl 0 (by simp) (by omega)
  unfold insU
  rw [if_pos h0, insU_at t r i (by simpa using hi) (fun j hj hji => by have := hl (j + 1) (by simpa using hj) (by omega); simpa using this) (fun hh => by have := h (by simpa using hh); simpa using this)]
  rfl
theorem insU_is (t : Int) : ∀ (l : List Int) (i : Nat) (hi : i < l.length), (∀ j (hj : j < l.length), j < i → l[j] < t) → l[i] = t → insU l t = l
 | [], i, hi, _, _ => by simp at hi
 | x :: r, 0, _, _, h => by
  have h0 : x = t := h
  unfold insU
  rw [if_neg (by omega), if_pos h0]
 | x :: r, i + 1, hi, hl, h => by
  have h0 : x < t := hl 0 (by simp) (by omega)
  unfold insU
  rw [if_pos h0, insU_is t r i (by simpa using hi) (fun j hj hji => by have := hl (j + 1) (by simpa using hj) (by omega); simpa using this) (by simpa using h)]
def putU (l : List Int) (t : Int) : List Int := if t ≥ 1099511627776 then l else insU l t
theorem putU_rise {l : List Int} (h : RiseU l) (t : Int) : RiseU (putU l t) := by unfold putU; split; exact h; exact insU_rise t l h
theorem putU_mem (x t : Int) (l : List Int) : x ∈ putU l t ↔ x ∈ l ∨ (x = t ∧ t < 1099511627776) := by
 unfold putU
 split
 ·exact ⟨fun h => .inl h, fun h => h.elim id (fun h => by omega)⟩
 ·rw [insU_mem]
  exact ⟨fun h => h.elim .inl (fun h => .inr ⟨h, by omega⟩), fun h => h.elim .inl (fun h => .inr h.1)⟩
theorem putU_len (l : List Int) (t : Int) : (putU l t).length ≤ l.length + 1 := by unfold putU; split; omega; exact insU_len t l

def addU (l : List Int) (f t : Int) : List Int := if t < f then l else putU l t
theorem addU_rise {l : List Int} (h : RiseU l) (f t : Int) : RiseU (addU l f t) := by unfold addU; split; exact h; exact putU_rise h t
theorem addU_mem (x f t : Int) (l : List Int) : x ∈ addU l f t ↔ x ∈ l ∨ (x = t ∧ f ≤ t ∧ t < 1099511627776) := by
 unfold addU
 split
 ·exact ⟨fun h => .inl h, fun h => h.elim id (fun h => by omega)⟩
 ·rw [putU_mem]
  exact ⟨fun h => h.elim .inl (fun h => .inr ⟨h.1, by omega, h.2⟩), fun h => h.elim .inl (fun h => .inr ⟨h.1, h.2.2⟩)⟩
theorem addU_len (l : List Int) (f t : Int) : (addU l f t).length ≤ l.length + 1 := by unfold addU; split; omega; exact putU_len l t

theorem infoI64 : (Try.prog.info? 2).map (fun i => (i.zero, i.size, i.bytes)) = some (some (.int .i64 0), 1, 8) := by kernel_rfl
def berthingref10_put.f (l : List Int) (t : Int) : Option (List Int) := if l.length < 4398046511104 then some (putU l t) else none
def berthingref11_add.f (l : List Int) (f t : Int) : Option (List Int) := if l.length < 4398046511104 then some (addU l f t) else none
theorem putU_fin {l : List Int} {t : Int} {i : Nat} (h1 : ¬ t ≥ 1099511627776) (hi : i ≤ l.length) (hlow : ∀ j (hj : j < l.length), j < i → l[j] < t) (hx : ∀ h : i < l.length, ¬ l[i] < t ∧ l[i] ≠ t) : putU l t = l.take i ++ [t] ++ l.drop i := by
 unfold putU
 rw [if_neg h1]
 exact insU_at t l i hi hlow hx
theorem putU_is {l : List Int} {t : Int} {i : Nat} (h1 : ¬ t ≥ 1099511627776) (hi : i < l.length) (hlow : ∀ j (hj : j < l.length), j < i → l[j] < t) (hx : l[i] = t) : putU l t = l := by
 unfold putU
 rw [if_neg h1]
 exact insU_is t l i hi hlow hx

def rputR.T8 : Bool × List (List Nat × List Nat) := (true, [([], []), ([], []), ([], []), ([1, 2], [1, 2]), ([0, 3], [0, 3]), ([], []), ([5], [5]), ([4, 6, 4], [4, 6]), ([], []), ([], []), ([8, 9], [8, 9]), ([7, 10, 7], [7, 10]), ([11, 11, 0, 1, 2, 3, 4, 5, 6, 7, 8, 9, 10, 11], [11])])
def rputR.B8 : List Nat := [0, 0, 0, 6, 15, 0, 32, 127, 0, 0, 768, 2047, 4095]
theorem rputR.tab8 : rtab .any (opsOf Try.f68 8) = rputR.T8 := by kernel_rfl
theorem rputR.bits8 : waitsOk rputR.T8.2 rputR.B8 = true := by kernel_rfl
set_option maxRecDepth 100000 in
set_option maxHeartbeats 8000000 in
theorem berthingref10_put.calls (P0_ : Nat → Prop) (u : Value) (l0 : List Int) (a1 : Int) (r : List Int) (w0 w : World) (hB : Below w0.heap.size w0 w) (ho0 : Kd.R (Kd.int .i64) 2 w w0.heap.size P0_ u l0) (h : berthingref10_put.f l0 a1 = some r) :
  Calls Try.prog 68 #[u, .int .i64 a1] w fun e w' => ∃ v0_ : Value, e = .returned v0_ ∧ Kd.R (Kd.int .i64) 2 w' w0.heap.size (fun k_ => P0_ k_ ∨ w.heap.size ≤ k_) v0_ r ∧ Below w0.heap.size w0 w' ∧ Kept w w' (fun k_ => P0_ k_) := by
 have hll : l0.length < 4398046511104 := by unfold berthingref10_put.f at h; split at h <;> first | assumption | cases h
 obtain rfl : putU l0 a1 = r := by unfold berthingref10_put.f at h; rw [if_pos hll] at h; exact Option.some.inj h
 clear h
 obtain ⟨A, c, rfl⟩ := Kd.R_slice ho0
 obtain ⟨_, hc, hC⟩ := Kd.R_reads' ho0
 have HO := Aside0.mk ho0
 have HC := Aside0.mk hC
 have HB0 := Aside0.mk hB
 have HLT := Aside0.mk (Kd.R_lt ho0)
 obtain ⟨i0, hi0, _, hsz0, _⟩ := info_parts infoI64
 clear ho0 hC hB
 by_cases h1 : a1 ≥ 1099511627776
 ·have e1 : decide (1099511627776 ≤ a1) = true := by simpa using h1
  go_enter Try.func68, Try.ntmps68
  go_wp2
  go_ret
  refine ⟨_, rfl, ?_, HB0.out, Kept.refl _ _⟩
  unfold putU
  rw [if_pos h1]
  exact Kd.R_mono HO.out (fun k hk => .inl hk)
 have e1 : decide (1099511627776 ≤ a1) = false := by simpa using h1
 have H1 := Aside0.mk h1
 clear h1
 go_enter Try.func68, Try.ntmps68
 go_wp2
 go_loopw [5] (fun v5 wr => wr = w ∧ ∃ i : Nat, v5 = .int .i64 (i : Int) ∧ i ≤ l0.length ∧ Aside0 (∀ j (hj : j < l0.length), j < i → l0[j] < a1))
  (fun v5 wr => l0.length - natV v5)
 case atStart => exact ⟨rfl, 0, rfl, Nat.zero_le _, ⟨fun j hj hji => by omega⟩⟩
 case round =>
  obtain ⟨rfl, i, rfl, hi, hlow⟩ := hrel
  by_cases hcont : ∃ h : i < l0.length, l0[i] ≤ a1
  ·obtain ⟨hlt, hle⟩ := hcont
   have e2 : decide ((i : Int) < (l0.length : Int)) = true := by simp; omega
   have e2' : decide (i < l0.length) = true := by simp; omega
   have p1 := eq_true (show (0 : Int) ≤ (i : Int) by omega)
   have p2 := eq_true (show (i : Int) < (l0.length : Int) by omega)
   obtain ⟨ad, rfl, hx0⟩ := Kd.at_int HC.out (i : Int) (by omega) (by omega)
   obtain ⟨x, hx⟩ : ∃ x, l0[i] = x := ⟨_, rfl⟩
   have hrd : rd l0 (i : Int) = x := by rw [← hx]; unfold rd; simp [List.getElem?_eq_getElem hlt]
   rw [hrd, Int.toNat_natCast] at hx0
   rw [hx] at hle
   have HX := Aside0.mk hx
   clear hx hrd
   by_cases h3 : x < a1
   ·have e3 : decide (x < a1) = true := by simp; omega
    clear hle
    go_wp2
    go_roundw
    case rel =>
     refine ⟨by trivial, i + 1, by go_num, by omega, ⟨fun j hj hji => ?_⟩⟩
     rcases Nat.lt_or_ge j i with h4 | h4
     ·exact hlow.out j hj h4
     ·obtain rfl : j = i := by omega
      rw [HX.out]; exact h3
    case measure => simp [natV]; omega
   ·have e3 : decide (x < a1) = false := by simp; omega
    have h4 : x = a1 := by omega
    have e4 : (x == a1) = true := by simp [h4]
    have HFin := Aside0.mk (putU_is (by have := H1.out; omega) hlt hlow.out (by rw [HX.out]; exact h4))
    clear hle h3 h4
    go_wp2
    go_ret
    refine ⟨_, rfl, ?_, HB0.out, Kept.refl _ _⟩
    rw [HFin.out]
    exact Kd.R_mono HO.out (fun k hk => .inl hk)
  have HFin := Aside0.mk (putU_fin (by have := H1.out; omega) hi hlow.out (fun h => ⟨fun h5 => hcont ⟨h, by omega⟩, fun h5 => hcont ⟨h, by omega⟩⟩))
  obtain ⟨z, hz⟩ : ∃ z : Int, (i : Int) = z := ⟨_, rfl⟩
  have hzn : z.toNat = i := by omega
  have hcut1 := cut_to (P := Try.prog) 85 2 .i64 Try.underlying85 hi0 A l0.length c z (by omega) (by omega) hc
  have hcut2 := cut_from (P := Try.prog) 85 2 .i64 Try.underlying85 hi0 1 hsz0 A l0.length c z (by omega) (by omega)
  rw [hzn] at hcut1 hcut2
  obtain ⟨A2, hA2⟩ : ∃ A2, (if c = i then A else A.map (fun x => x.add (i * 1))) = A2 := ⟨_, rfl⟩
  obtain ⟨n2, hn2⟩ : ∃ n2, l0.length - i = n2 := ⟨_, rfl⟩
  obtain ⟨c2, hc2⟩ : ∃ c2, c - i = c2 := ⟨_, rfl⟩
  rw [hA2, hn2, hc2] at hcut2
  have HA2 := Aside0.mk hA2
  have HN2 := Aside0.mk hn2
  have q1 := eq_true (show z ≤ (l0.length : Int) by omega)
  have p1 := eq_true (show (0 : Int) ≤ z by omega)
  have HZ := Aside0.mk hz
  have HI := Aside0.mk hi
  rw [hz]
  rcases Nat.lt_or_ge i l0.length with hlt | hge
  case' inl =>
   have e2 : decide (z < (l0.length : Int)) = true := by simp; omega
   have p2 := eq_true (show z < (l0.length : Int) by omega)
   obtain ⟨ad, hA, hx0⟩ := Kd.at_int HC.out z (by omega) (by omega)
   rw [hA] at hcut1 hcut2
   rw [hA]
   obtain ⟨x, hx⟩ : ∃ x, l0[i] = x := ⟨_, rfl⟩
   have hrd : rd l0 z = x := by rw [← hz, ← hx]; unfold rd; simp [List.getElem?_eq_getElem hlt]
   rw [hrd] at hx0
   have hgt : a1 < x := by
    rcases Int.lt_or_le a1 x with h5 | h5
    ·exact h5
    ·exact absurd ⟨hlt, by rw [hx]; exact h5⟩ hcont
   have e3 : decide (x < a1) = false := by simp; omega
   have e4 : (x == a1) = false := by simp; omega
   have HAA := Aside0.mk hA
   clear hx hrd hgt hcont hA hz hzn hn2 hc2 hA2 hi hlt
   go_wp2
   rw [← HAA.out] at hcut1 hcut2
   rw [← HAA.out]
   clear HAA hx0
  case' inr =>
   have e2 : decide (z < (l0.length : Int)) = false := by simp; omega
   clear hcont hz hzn hn2 hc2 hA2 hi hge
   go_wp2
  all_goals
   refine start_ (n := 13) (S := fun w' => True) (ds := []) #[false, false, false, false, false, false, false, false, false, false, false, false, false] (by kernel_rfl) rfl rfl trivial (fun hHeld => ?_); refine with_tabW rputR.tab8 rputR.bits8 (fun HT_ HW_ => ?_)
   have HL := Aside0.mk (Kd.R_drew HO.out)
   have HB := Aside0.mk (below_drew1 (Below.refl wr.heap.size wr))
   refine pu 1 (some 37) ?_ HT_ rfl rfl (by kernel_rfl) (fun _ _ _ h => h) (Or.inl ⟨by rfl, ?_⟩) ?_ ?_ ?_
   rotate_left
   ·intro w'; go_simp; with_reducible rfl
   rotate_left
   ·simp only [Act.put, sA, sB, sC, i64_w]; rfl
   refine pu 2 (some 38) ?_ HT_ rfl rfl (by kernel_rfl) (fun _ _ _ h => h) (Or.inl ⟨by rfl, ?_⟩) ?_ ?_ ?_
   rotate_left
   ·intro w'; go_simp; with_reducible rfl
   rotate_left
   ·simp only [Act.put, sA, sB, sC, i64_w]; rfl
   refine pu 3 (some 39) ?_ HT_ rfl rfl (by kernel_rfl) (fun _ _ _ h => h) (Or.inl ⟨by rfl, ?_⟩) ?_ ?_ ?_
   rotate_left
   ·intro w'; go_simp; with_reducible rfl
   rotate_left
   ·simp only [Act.put, sA, sB, sC, i64_w]; rfl
   refine pu 5 (some 41) ?_ HT_ rfl rfl (by kernel_rfl) (fun _ _ _ h => h) (Or.inl ⟨by rfl, ?_⟩) ?_ ?_ ?_
   rotate_left
   ·intro w'; go_simp; with_reducible rfl
   rotate_left
   ·simp only [Act.put, sA, sB, sC, i64_w]; rfl
   refine pu 8 (some 44) ?_ HT_ rfl rfl (by kernel_rfl) (fun _ _ _ h => h) (Or.inl ⟨by rfl, ?_⟩) ?_ ?_ ?_
   rotate_left
   ·intro w'; go_simp; with_reducible rfl
   rotate_left
   ·simp only [Act.put, sA, sB, sC, i64_w]; rfl
   refine pu 9 (some 45) ?_ HT_ rfl rfl (by kernel_rfl) (fun _ _ _ h => h) (Or.inl ⟨by rfl, ?_⟩) ?_ ?_ ?_
   rotate_left
   ·intro w'; go_simp; with_reducible rfl
   rotate_left
   ·simp only [Act.put, sA, sB, sC, i64_w]; rfl
   refine pu 10 (some 46) ?_ HT_ rfl rfl (by kernel_rfl) (fun _ _ _ h => h) (Or.inl ⟨by rfl, ?_⟩) ?_ ?_ ?_
   rotate_left
   ·intro w'; go_simp; with_reducible rfl
   rotate_left
   ·simp only [Act.put, sA, sB, sC, i64_w]; rfl
   refine join_ (σ := Value × Value × Value) 3 #[true, true, true, true, true, true, true, false, true, true, true, false, false] (fun s_ => [(36, s_.1), (40, s_.2.1), (42, s_.2.2)]) (fun s_ w' => Kd.R (Kd.int .i64) 2 w' w0.heap.size P0_ (.slice A l0.length c) l0 ∧ Kd.R (Kd.int .i64) 2 w' wr.heap.size (fun _ => True) s_.2.1 (l0.take i) ∧ Kd.R (Kd.int .i64) 2 w' wr.heap.size (fun _ => True) s_.2.2 [a1] ∧ (∀ k, (s_.2.1 : Value).ownBlock = some k → some k ≠ (s_.2.2 : Value).ownBlock) ∧ Below wr.heap.size wr w') ?_ ?_
   rotate_left
   ·intro hCont
    refine two_ (i := 0) (j := 6) (Ni := some 36) (Nj := some 42) #[true, true, true, true, false, true, false, false, true, true, true, false, false] #[false, true, true, true, false, true, true, false, true, true, true, false, false] rfl rfl rfl rfl (two_of HT_.out (by kernel_rfl)) (by decide) (by decide) (fun K hK => ?_) (fun K hK => ?_)
    ·skip
     refine Kd.R_lit_step (Kd.int .i64) _ 2 (by rfl) (N := 36) rfl (xs := ([] : List Int)) (inner := []) (ok := fun _ => True) (okp := fun _ => True) ?hr ?hp (fun _ hk => hk) trivial (Below.refl _ _) (Nat.le_refl _) (by simp) ?_; (case hr => first | (go_simp; done) | (go_simp; rfl)); (case hp => exact (Reps.none _ _))
     intro va w1 ho hb hg hnew
     have hs := HB.out.size
     have HLn := Aside0.mk (Kd.R_below HL.out hb)
     have HRvan := Aside0.mk (Kd.R_lower ho hs)
     have HBn := Aside0.mk (below_step HB.out hb)
     clear HL HB
     have HL := HLn
     have HB := HBn
     clear HLn HBn
     have HRva := HRvan
     clear HRvan
     clear hb ho hg hnew hs
     refine hK.out _ _ trivial (fun hHeld => ?_)
     clear hK K
     refine norm_ (a' := ?_) ?_ ?_
     rotate_left
     ·show Act.put _ (some 36) _ = _; simp only [Act.put, sA, sB, sC, i64_w]; rfl
     refine two_ (i := 4) (j := 6) (Ni := some 40) (Nj := some 42) #[true, true, true, true, true, true, false, false, true, true, true, false, false] #[true, true, true, true, false, true, true, false, true, true, true, false, false] rfl rfl rfl rfl (two_of HT_.out (by kernel_rfl)) (by decide) (by decide) (fun K hK => ?_) (fun K hK => ?_)
     ·skip
      refine Kd.R_append_rows_step (Kd.int .i64) (w0 := wr) wr.heap.size (by rfl) (.tmp 36) (.tmp 39) 85 2 (.int .i64 0) 8 rfl Try.underlying85 infoI64 rfl (by decide) (by omega) va [] (l0.take i) _ _ _ (fun _ => True) (fun _ => False) rfl rfl HRva.out (by have h := Kd.C_take (m := i) (Kd.R_reads' HL.out).2.2 HI.out; rwa [List.length_take, Nat.min_eq_left HI.out] at h) (fun _ _ h => h) (fun _ h => h.elim) (fun _ _ => trivial) HB.out HB.out.size (by have h1 := HI.out; have h2 := HN2.out; simp; omega) ?_
      intro vb w2 ho hb hg hat
      have HLn := Aside0.mk (Kd.R_grown2 HL.out rfl hg (fun k hk he => by have h1 := Kd.R_base HRva.out k hk; have h2 := HLT.out k he.symm; omega))
      have HRvbn := Aside0.mk ho
      have HBn := Aside0.mk hb
      clear HL HB
      have HL := HLn
      have HB := HBn
      clear HLn HBn
      have HRvb := HRvbn
      clear HRvbn
      clear ho hb hg hat
      refine hK.out _ _ trivial (fun hHeld => ?_)
      clear hK K
      refine norm_ (a' := ?_) ?_ ?_
      rotate_left
      ·show Act.put _ (some 40) _ = _; simp only [Act.put, sA, sB, sC, i64_w]; rfl
      refine on 6 (some 42) HT_ rfl rfl (by kernel_rfl) (by decide) (fun K hK => ?_)
      refine Kd.R_lit_step (Kd.int .i64) _ 2 (by rfl) (N := 42) rfl (xs := ([a1] : List Int)) (inner := [.int .i64 a1]) (ok := fun _ => True) (okp := fun _ => True) ?hr ?hp (fun _ hk => hk) trivial (Below.refl _ _) (Nat.le_refl _) (by simp) ?_; (case hr => first | (go_simp; done) | (go_simp; rfl)); (case hp => exact (Reps.one (show Kd.M (Kd.int .i64) _ _ _ a1 [.int .i64 a1] from rfl) (Reps.none _ _)))
      intro vc w3 ho hb hg hnew
      have hs := HB.out.size
      have HLn := Aside0.mk (Kd.R_below HL.out hb)
      have HRvbn := Aside0.mk (Kd.R_below HRvb.out hb)
      have HRvcn := Aside0.mk (Kd.R_lower ho hs)
      have HNn := Aside0.mk (show ∀ k, (vb : Value).ownBlock = some k → some k ≠ (vc : Value).ownBlock from fun k hk he => by have h1 := Kd.R_lt HRvb.out k hk; have h2 := Kd.R_base ho k he.symm; omega)
      have HBn := Aside0.mk (below_step HB.out hb)
      clear HL HB HRvb
      have HL := HLn
      have HB := HBn
      clear HLn HBn
      have HRvb := HRvbn
      clear HRvbn
      have HRvc := HRvcn
      clear HRvcn
      have HN := HNn
      clear HNn
      clear hb ho hg hnew hs
      refine hK.out _ _ trivial (fun hHeld => ?_)
      clear hK K
      refine norm_ (a' := ?_) ?_ ?_
      rotate_left
      ·show Act.put _ (some 42) _ = _; simp only [Act.put, sA, sB, sC, i64_w]; rfl
      exact norm_ (by simp only [putAll, Act.put, List.setIfInBounds_toArray, List.set_cons_zero, List.set_cons_succ]) (hCont (va, vb, vc) _ ⟨HL.out, HRvb.out, HRvc.out, HN.out, HB.out⟩)
     ·skip
      refine Kd.R_lit_step (Kd.int .i64) _ 2 (by rfl) (N := 42) rfl (xs := ([a1] : List Int)) (inner := [.int .i64 a1]) (ok := fun _ => True) (okp := fun _ => True) ?hr ?hp (fun _ hk => hk) trivial (Below.refl _ _) (Nat.le_refl _) (by simp) ?_; (case hr => first | (go_simp; done) | (go_simp; rfl)); (case hp => exact (Reps.one (show Kd.M (Kd.int .i64) _ _ _ a1 [.int .i64 a1] from rfl) (Reps.none _ _)))
      intro vc w2 ho hb hg hnew
      have hs := HB.out.size
      have HLn := Aside0.mk (Kd.R_below HL.out hb)
      have HRvan := Aside0.mk (Kd.R_below HRva.out hb)
      have HRvcn := Aside0.mk (Kd.R_lower ho hs)
      have HNn := Aside0.mk (show ∀ k, (va : Value).ownBlock = some k → some k ≠ (vc : Value).ownBlock from fun k hk he => by have h1 := Kd.R_lt HRva.out k hk; have h2 := Kd.R_base ho k he.symm; omega)
      have HBn := Aside0.mk (below_step HB.out hb)
      clear HL HB HRva
      have HL := HLn
      have HB := HBn
      clear HLn HBn
      have HRva := HRvan
      clear HRvan
      have HRvc := HRvcn
      clear HRvcn
      have HN := HNn
      clear HNn
      clear hb ho hg hnew hs
      refine hK.out _ _ trivial (fun hHeld => ?_)
      clear hK K
      refine norm_ (a' := ?_) ?_ ?_
      rotate_left
      ·show Act.put _ (some 42) _ = _; simp only [Act.put, sA, sB, sC, i64_w]; rfl
      refine on 4 (some 40) HT_ rfl rfl (by kernel_rfl) (by decide) (fun K hK => ?_)
      refine Kd.R_append_rows_step (Kd.int .i64) (w0 := wr) wr.heap.size (by rfl) (.tmp 36) (.tmp 39) 85 2 (.int .i64 0) 8 rfl Try.underlying85 infoI64 rfl (by decide) (by omega) va [] (l0.take i) _ _ _ (fun _ => True) (fun _ => False) rfl rfl HRva.out (by have h := Kd.C_take (m := i) (Kd.R_reads' HL.out).2.2 HI.out; rwa [List.length_take, Nat.min_eq_left HI.out] at h) (fun _ _ h => h) (fun _ h => h.elim) (fun _ _ => trivial) HB.out HB.out.size (by have h1 := HI.out; have h2 := HN2.out; simp; omega) ?_
      intro vb w3 ho hb hg hat
      have HLn := Aside0.mk (Kd.R_grown2 HL.out rfl hg (fun k hk he => by have h1 := Kd.R_base HRva.out k hk; have h2 := HLT.out k he.symm; omega))
      have HRvcn := Aside0.mk (Kd.R_grown2 HRvc.out rfl hg (fun k hk => HN.out k hk))
      have HRvbn := Aside0.mk ho
      have HNn := Aside0.mk (show ∀ k, (vb : Value).ownBlock = some k → some k ≠ (vc : Value).ownBlock from fun k hk he => by
       rcases hat with h1 | ⟨b, h1, h2⟩
       ·exact HN.out k (h1 ▸ hk) he
       ·have h3 := Kd.R_lt HRvc.out k he.symm
        rw [h1] at hk
        injection hk with hk
        omega)
      have HBn := Aside0.mk hb
      clear HL HB HRvc
      have HL := HLn
      have HB := HBn
      clear HLn HBn
      have HRvc := HRvcn
      clear HRvcn
      have HRvb := HRvbn
      clear HRvbn
      have HN := HNn
      clear HNn
      clear ho hb hg hat
      refine hK.out _ _ trivial (fun hHeld => ?_)
      clear hK K
      refine norm_ (a' := ?_) ?_ ?_
      rotate_left
      ·show Act.put _ (some 40) _ = _; simp only [Act.put, sA, sB, sC, i64_w]; rfl
      exact norm_ (by simp only [putAll, Act.put, List.setIfInBounds_toArray, List.set_cons_zero, List.set_cons_succ]) (hCont (va, vb, vc) _ ⟨HL.out, HRvb.out, HRvc.out, HN.out, HB.out⟩)
    ·skip
     refine Kd.R_lit_step (Kd.int .i64) _ 2 (by rfl) (N := 42) rfl (xs := ([a1] : List Int)) (inner := [.int .i64 a1]) (ok := fun _ => True) (okp := fun _ => True) ?hr ?hp (fun _ hk => hk) trivial (Below.refl _ _) (Nat.le_refl _) (by simp) ?_; (case hr => first | (go_simp; done) | (go_simp; rfl)); (case hp => exact (Reps.one (show Kd.M (Kd.int .i64) _ _ _ a1 [.int .i64 a1] from rfl) (Reps.none _ _)))
     intro vc w1 ho hb hg hnew
     have hs := HB.out.size
     have HLn := Aside0.mk (Kd.R_below HL.out hb)
     have HRvcn := Aside0.mk (Kd.R_lower ho hs)
     have HBn := Aside0.mk (below_step HB.out hb)
     clear HL HB
     have HL := HLn
     have HB := HBn
     clear HLn HBn
     have HRvc := HRvcn
     clear HRvcn
     clear hb ho hg hnew hs
     refine hK.out _ _ trivial (fun hHeld => ?_)
     clear hK K
     refine norm_ (a' := ?_) ?_ ?_
     rotate_left
     ·show Act.put _ (some 42) _ = _; simp only [Act.put, sA, sB, sC, i64_w]; rfl
     refine on 0 (some 36) HT_ rfl rfl (by kernel_rfl) (by decide) (fun K hK => ?_)
     refine Kd.R_lit_step (Kd.int .i64) _ 2 (by rfl) (N := 36) rfl (xs := ([] : List Int)) (inner := []) (ok := fun _ => True) (okp := fun _ => True) ?hr ?hp (fun _ hk => hk) trivial (Below.refl _ _) (Nat.le_refl _) (by simp) ?_; (case hr => first | (go_simp; done) | (go_simp; rfl)); (case hp => exact (Reps.none _ _))
     intro va w2 ho hb hg hnew
     have hs := HB.out.size
     have HLn := Aside0.mk (Kd.R_below HL.out hb)
     have HRvcn := Aside0.mk (Kd.R_below HRvc.out hb)
     have HRvan := Aside0.mk (Kd.R_lower ho hs)
     have HNn := Aside0.mk (show ∀ k, (va : Value).ownBlock = some k → some k ≠ (vc : Value).ownBlock from fun k hk he => by have h1 := Kd.R_lt HRvc.out k he.symm; have h2 := Kd.R_base ho k hk; omega)
     have HBn := Aside0.mk (below_step HB.out hb)
     clear HL HB HRvc
     have HL := HLn
     have HB := HBn
     clear HLn HBn
     have HRvc := HRvcn
     clear HRvcn
     have HRva := HRvan
     clear HRvan
     have HN := HNn
     clear HNn
     clear hb ho hg hnew hs
     refine hK.out _ _ trivial (fun hHeld => ?_)
     clear hK K
     refine norm_ (a' := ?_) ?_ ?_
     rotate_left
     ·show Act.put _ (some 36) _ = _; simp only [Act.put, sA, sB, sC, i64_w]; rfl
     refine on 4 (some 40) HT_ rfl rfl (by kernel_rfl) (by decide) (fun K hK => ?_)
     refine Kd.R_append_rows_step (Kd.int .i64) (w0 := wr) wr.heap.size (by rfl) (.tmp 36) (.tmp 39) 85 2 (.int .i64 0) 8 rfl Try.underlying85 infoI64 rfl (by decide) (by omega) va [] (l0.take i) _ _ _ (fun _ => True) (fun _ => False) rfl rfl HRva.out (by have h := Kd.C_take (m := i) (Kd.R_reads' HL.out).2.2 HI.out; rwa [List.length_take, Nat.min_eq_left HI.out] at h) (fun _ _ h => h) (fun _ h => h.elim) (fun _ _ => trivial) HB.out HB.out.size (by have h1 := HI.out; have h2 := HN2.out; simp; omega) ?_
     intro vb w3 ho hb hg hat
     have HLn := Aside0.mk (Kd.R_grown2 HL.out rfl hg (fun k hk he => by have h1 := Kd.R_base HRva.out k hk; have h2 := HLT.out k he.symm; omega))
     have HRvcn := Aside0.mk (Kd.R_grown2 HRvc.out rfl hg (fun k hk => HN.out k hk))
     have HRvbn := Aside0.mk ho
     have HNn := Aside0.mk (show ∀ k, (vb : Value).ownBlock = some k → some k ≠ (vc : Value).ownBlock from fun k hk he => by
      rcases hat with h1 | ⟨b, h1, h2⟩
      ·exact HN.out k (h1 ▸ hk) he
      ·have h3 := Kd.R_lt HRvc.out k he.symm
       rw [h1] at hk
       injection hk with hk
       omega)
     have HBn := Aside0.mk hb
     clear HL HB HRvc
     have HL := HLn
     have HB := HBn
     clear HLn HBn
     have HRvc := HRvcn
     clear HRvcn
     have HRvb := HRvbn
     clear HRvbn
     have HN := HNn
     clear HNn
     clear ho hb hg hat
     refine hK.out _ _ trivial (fun hHeld => ?_)
     clear hK K
     refine norm_ (a' := ?_) ?_ ?_
     rotate_left
     ·show Act.put _ (some 40) _ = _; simp only [Act.put, sA, sB, sC, i64_w]; rfl
     exact norm_ (by simp only [putAll, Act.put, List.setIfInBounds_toArray, List.set_cons_zero, List.set_cons_succ]) (hCont (va, vb, vc) _ ⟨HL.out, HRvb.out, HRvc.out, HN.out, HB.out⟩)
   rintro ⟨va, vb, vc⟩ w10 ⟨h0_, h1_, h2_, h3_, h4_⟩
   clear HL HB
   have HL := Aside0.mk h0_
   have HRvb := Aside0.mk h1_
   have HRvc := Aside0.mk h2_
   have HN := Aside0.mk h3_
   have HB := Aside0.mk h4_
   clear h0_ h1_ h2_ h3_ h4_
   obtain ⟨Ac, cc, rfl⟩ := Kd.R_slice HRvc.out
   have hHeld := trivial
   refine norm_ (a' := ?_) ?_ ?_
   rotate_left
   ·simp only [putAll, Act.put, List.setIfInBounds_toArray, List.set_cons_zero, List.set_cons_succ]
    rfl
   refine on 7 (some 43) HT_ rfl rfl (by kernel_rfl) (by decide) (fun K hK => ?_)
   refine Kd.R_append_rows_step (Kd.int .i64) (w0 := wr) wr.heap.size (by rfl) (.tmp 40) (.tmp 42) 85 2 (.int .i64 0) 8 rfl Try.underlying85 infoI64 rfl (by decide) (by omega) vb (l0.take i) [a1] _ _ _ (fun _ => True) (fun _ => False) rfl rfl HRvb.out (Kd.R_reads' HRvc.out).2.2 (fun _ _ h => h) (fun _ h => h.elim) (fun _ _ => trivial) HB.out HB.out.size (by have h1 := HI.out; have h2 := HN2.out; simp; omega) ?_
   intro vd w11 ho hb hg hat
   have HLn := Aside0.mk (Kd.R_grown2 HL.out rfl hg (fun k hk he => by have h1 := Kd.R_base HRvb.out k hk; have h2 := HLT.out k he.symm; omega))
   have HRvdn := Aside0.mk ho
   have HBn := Aside0.mk hb
   clear HL HB
   have HL := HLn
   have HB := HBn
   clear HLn HBn
   have HRvd := HRvdn
   clear HRvdn
   clear ho hb hg hat
   refine hK.out _ _ trivial (fun hHeld => ?_)
   clear hK K
   refine norm_ (a' := ?_) ?_ ?_
   rotate_left
   ·show Act.put _ (some 43) _ = _; simp only [Act.put, sA, sB, sC, i64_w]; rfl
   refine on 11 (some 47) HT_ rfl rfl (by kernel_rfl) (by decide) (fun K hK => ?_)
   refine Kd.R_append_rows_step (Kd.int .i64) (w0 := wr) wr.heap.size (by rfl) (.tmp 43) (.tmp 46) 85 2 (.int .i64 0) 8 rfl Try.underlying85 infoI64 rfl (by decide) (by omega) vd (l0.take i ++ [a1]) (l0.drop i) _ _ _ (fun _ => True) (fun _ => False) rfl rfl HRvd.out (by have h := Kd.C_drop (m := i) (Kd.R_reads' HL.out).2.2 HI.out hc; rw [List.length_drop, HN2.out] at h; rw [← HA2.out]; exact h) (fun _ _ h => h) (fun _ h => h.elim) (fun _ _ => trivial) HB.out HB.out.size (by have h1 := HI.out; have h2 := HN2.out; simp; omega) ?_
   intro ve w12 ho hb hg hat
   have HLn := Aside0.mk (Kd.R_grown2 HL.out rfl hg (fun k hk he => by have h1 := Kd.R_base HRvd.out k hk; have h2 := HLT.out k he.symm; omega))
   have HRven := Aside0.mk ho
   have HBn := Aside0.mk hb
   clear HL HB
   have HL := HLn
   have HB := HBn
   clear HLn HBn
   have HRve := HRven
   clear HRven
   clear ho hb hg hat
   refine hK.out _ _ trivial (fun hHeld => ?_)
   clear hK K
   refine norm_ (a' := ?_) ?_ ?_
   rotate_left
   ·show Act.put _ (some 47) _ = _; simp only [Act.put, sA, sB, sC, i64_w]; rfl
   refine pu 12 (some 4) ?_ HT_ rfl rfl (by kernel_rfl) (fun _ _ _ h => h) (Or.inl ⟨by rfl, ?_⟩) ?_ ?_ ?_
   rotate_left
   ·intro w'; go_simp; with_reducible rfl
   rotate_left
   ·simp only [Act.put, sA, sB, sC, i64_w]; rfl
   refine done_ (done_of HT_.out (by kernel_rfl)) ?_
   go_wp2
   go_ret
   refine ⟨_, rfl, ?_, below_step HB0.out HB.out, Kept.of_below HB.out _⟩
   rw [HFin.out]
   exact Kd.R_lower (Kd.R_mono (Kd.R_bound HRve.out) (fun k hk => .inr hk.2.1)) HB0.out.size
def raddR.T8 : Bool × List (List Nat × List Nat) := (true, [([], []), ([], []), ([], []), ([1, 2], [1, 2]), ([0, 3], [0, 3]), ([], []), ([5], [5]), ([4, 6, 4], [4, 6]), ([], []), ([], []), ([8, 9], [8, 9]), ([7, 10, 7], [7, 10]), ([11, 11, 0, 1, 2, 3, 4, 5, 6, 7, 8, 9, 10, 11], [11])])
def raddR.B8 : List Nat := [0, 0, 0, 6, 15, 0, 32, 127, 0, 0, 768, 2047, 4095]
theorem raddR.tab8 : rtab .any (opsOf Try.f67 8) = raddR.T8 := by kernel_rfl
theorem raddR.bits8 : waitsOk raddR.T8.2 raddR.B8 = true := by kernel_rfl
set_option maxRecDepth 100000 in
set_option maxHeartbeats 8000000 in
theorem berthingref11_add.calls (P0_ : Nat → Prop) (u : Value) (l0 : List Int) (f : Int) (a1 : Int) (r : List Int) (w0 w : World) (hB : Below w0.heap.size w0 w) (ho0 : Kd.R (Kd.int .i64) 2 w w0.heap.size P0_ u l0) (h : berthingref11_add.f l0 f a1 = some r) :
  Calls Try.prog 67 #[u, .int .i64 f, .int .i64 a1] w fun e w' => ∃ v0_ : Value, e = .returned v0_ ∧ Kd.R (Kd.int .i64) 2 w' w0.heap.size (fun k_ => P0_ k_ ∨ w.heap.size ≤ k_) v0_ r ∧ Below w0.heap.size w0 w' ∧ Kept w w' (fun k_ => P0_ k_) := by
 have hll : l0.length < 4398046511104 := by unfold berthingref11_add.f at h; split at h <;> first | assumption | cases h
 obtain rfl : addU l0 f a1 = r := by unfold berthingref11_add.f at h; rw [if_pos hll] at h; exact Option.some.inj h
 clear h
 obtain ⟨A, c, rfl⟩ := Kd.R_slice ho0
 obtain ⟨_, hc, hC⟩ := Kd.R_reads' ho0
 have HO := Aside0.mk ho0
 have HC := Aside0.mk hC
 have HB0 := Aside0.mk hB
 have HLT := Aside0.mk (Kd.R_lt ho0)
 obtain ⟨i0, hi0, _, hsz0, _⟩ := info_parts infoI64
 clear ho0 hC hB
 by_cases hf : a1 < f
 ·have ef : decide (a1 < f) = true := by simpa using hf
  go_enter Try.func67, Try.ntmps67
  go_wp2
  go_ret
  refine ⟨_, rfl, ?_, HB0.out, Kept.refl _ _⟩
  unfold addU
  rw [if_pos hf]
  exact Kd.R_mono HO.out (fun k hk => .inl hk)
 have hadd : addU l0 f a1 = putU l0 a1 := by unfold addU; rw [if_neg hf]
 have ef : decide (a1 < f) = false := by simpa using hf
 rw [hadd]
 clear hf hadd
 by_cases h1 : a1 ≥ 1099511627776
 ·have e1 : decide (1099511627776 ≤ a1) = true := by simpa using h1
  go_enter Try.func67, Try.ntmps67
  go_wp2
  go_ret
  refine ⟨_, rfl, ?_, HB0.out, Kept.refl _ _⟩
  unfold putU
  rw [if_pos h1]
  exact Kd.R_mono HO.out (fun k hk => .inl hk)
 have e1 : decide (1099511627776 ≤ a1) = false := by simpa using h1
 have H1 := Aside0.mk h1
 clear h1
 go_enter Try.func67, Try.ntmps67
 go_wp2
 go_loopw [7] (fun v5 wr => wr = w ∧ ∃ i : Nat, v5 = .int .i64 (i : Int) ∧ i ≤ l0.length ∧ Aside0 (∀ j (hj : j < l0.length), j < i → l0[j] < a1))
  (fun v5 wr => l0.length - natV v5)
 case atStart => exact ⟨rfl, 0, rfl, Nat.zero_le _, ⟨fun j hj hji => by omega⟩⟩
 case round =>
  obtain ⟨rfl, i, rfl, hi, hlow⟩ := hrel
  by_cases hcont : ∃ h : i < l0.length, l0[i] ≤ a1
  ·obtain ⟨hlt, hle⟩ := hcont
   have e2 : decide ((i : Int) < (l0.length : Int)) = true := by simp; omega
   have e2' : decide (i < l0.length) = true := by simp; omega
   have p1 := eq_true (show (0 : Int) ≤ (i : Int) by omega)
   have p2 := eq_true (show (i : Int) < (l0.length : Int) by omega)
   obtain ⟨ad, rfl, hx0⟩ := Kd.at_int HC.out (i : Int) (by omega) (by omega)
   obtain ⟨x, hx⟩ : ∃ x, l0[i] = x := ⟨_, rfl⟩
   have hrd : rd l0 (i : Int) = x := by rw [← hx]; unfold rd; simp [List.getElem?_eq_getElem hlt]
   rw [hrd, Int.toNat_natCast] at hx0
   rw [hx] at hle
   have HX := Aside0.mk hx
   clear hx hrd
   by_cases h3 : x < a1
   ·have e3 : decide (x < a1) = true := by simp; omega
    clear hle
    go_wp2
    go_roundw
    case rel =>
     refine ⟨by trivial, i + 1, by go_num, by omega, ⟨fun j hj hji => ?_⟩⟩
     rcases Nat.lt_or_ge j i with h4 | h4
     ·exact hlow.out j hj h4
     ·obtain rfl : j = i := by omega
      rw [HX.out]; exact h3
    case measure => simp [natV]; omega
   ·have e3 : decide (x < a1) = false := by simp; omega
    have h4 : x = a1 := by omega
    have e4 : (x == a1) = true := by simp [h4]
    have HFin := Aside0.mk (putU_is (by have := H1.out; omega) hlt hlow.out (by rw [HX.out]; exact h4))
    clear hle h3 h4
    go_wp2
    go_ret
    refine ⟨_, rfl, ?_, HB0.out, Kept.refl _ _⟩
    rw [HFin.out]
    exact Kd.R_mono HO.out (fun k hk => .inl hk)
  have HFin := Aside0.mk (putU_fin (by have := H1.out; omega) hi hlow.out (fun h => ⟨fun h5 => hcont ⟨h, by omega⟩, fun h5 => hcont ⟨h, by omega⟩⟩))
  obtain ⟨z, hz⟩ : ∃ z : Int, (i : Int) = z := ⟨_, rfl⟩
  have hzn : z.toNat = i := by omega
  have hcut1 := cut_to (P := Try.prog) 85 2 .i64 Try.underlying85 hi0 A l0.length c z (by omega) (by omega) hc
  have hcut2 := cut_from (P := Try.prog) 85 2 .i64 Try.underlying85 hi0 1 hsz0 A l0.length c z (by omega) (by omega)
  rw [hzn] at hcut1 hcut2
  obtain ⟨A2, hA2⟩ : ∃ A2, (if c = i then A else A.map (fun x => x.add (i * 1))) = A2 := ⟨_, rfl⟩
  obtain ⟨n2, hn2⟩ : ∃ n2, l0.length - i = n2 := ⟨_, rfl⟩
  obtain ⟨c2, hc2⟩ : ∃ c2, c - i = c2 := ⟨_, rfl⟩
  rw [hA2, hn2, hc2] at hcut2
  have HA2 := Aside0.mk hA2
  have HN2 := Aside0.mk hn2
  have q1 := eq_true (show z ≤ (l0.length : Int) by omega)
  have p1 := eq_true (show (0 : Int) ≤ z by omega)
  have HZ := Aside0.mk hz
  have HI := Aside0.mk hi
  rw [hz]
  rcases Nat.lt_or_ge i l0.length with hlt | hge
  case' inl =>
   have e2 : decide (z < (l0.length : Int)) = true := by simp; omega
   have p2 := eq_true (show z < (l0.length : Int) by omega)
   obtain ⟨ad, hA, hx0⟩ := Kd.at_int HC.out z (by omega) (by omega)
   rw [hA] at hcut1 hcut2
   rw [hA]
   obtain ⟨x, hx⟩ : ∃ x, l0[i] = x := ⟨_, rfl⟩
   have hrd : rd l0 z = x := by rw [← hz, ← hx]; unfold rd; simp [List.getElem?_eq_getElem hlt]
   rw [hrd] at hx0
   have hgt : a1 < x := by
    rcases Int.lt_or_le a1 x with h5 | h5
    ·exact h5
    ·exact absurd ⟨hlt, by rw [hx]; exact h5⟩ hcont
   have e3 : decide (x < a1) = false := by simp; omega
   have e4 : (x == a1) = false := by simp; omega
   have HAA := Aside0.mk hA
   clear hx hrd hgt hcont hA hz hzn hn2 hc2 hA2 hi hlt
   go_wp2
   rw [← HAA.out] at hcut1 hcut2
   rw [← HAA.out]
   clear HAA hx0
  case' inr =>
   have e2 : decide (z < (l0.length : Int)) = false := by simp; omega
   clear hcont hz hzn hn2 hc2 hA2 hi hge
   go_wp2
  all_goals
   refine start_ (n := 13) (S := fun w' => True) (ds := []) #[false, false, false, false, false, false, false, false, false, false, false, false, false] (by kernel_rfl) rfl rfl trivial (fun hHeld => ?_); refine with_tabW raddR.tab8 raddR.bits8 (fun HT_ HW_ => ?_)
   have HL := Aside0.mk (Kd.R_drew HO.out)
   have HB := Aside0.mk (below_drew1 (Below.refl wr.heap.size wr))
   refine pu 1 (some 44) ?_ HT_ rfl rfl (by kernel_rfl) (fun _ _ _ h => h) (Or.inl ⟨by rfl, ?_⟩) ?_ ?_ ?_
   rotate_left
   ·intro w'; go_simp; with_reducible rfl
   rotate_left
   ·simp only [Act.put, sA, sB, sC, i64_w]; rfl
   refine pu 2 (some 45) ?_ HT_ rfl rfl (by kernel_rfl) (fun _ _ _ h => h) (Or.inl ⟨by rfl, ?_⟩) ?_ ?_ ?_
   rotate_left
   ·intro w'; go_simp; with_reducible rfl
   rotate_left
   ·simp only [Act.put, sA, sB, sC, i64_w]; rfl
   refine pu 3 (some 46) ?_ HT_ rfl rfl (by kernel_rfl) (fun _ _ _ h => h) (Or.inl ⟨by rfl, ?_⟩) ?_ ?_ ?_
   rotate_left
   ·intro w'; go_simp; with_reducible rfl
   rotate_left
   ·simp only [Act.put, sA, sB, sC, i64_w]; rfl
   refine pu 5 (some 48) ?_ HT_ rfl rfl (by kernel_rfl) (fun _ _ _ h => h) (Or.inl ⟨by rfl, ?_⟩) ?_ ?_ ?_
   rotate_left
   ·intro w'; go_simp; with_reducible rfl
   rotate_left
   ·simp only [Act.put, sA, sB, sC, i64_w]; rfl
   refine pu 8 (some 51) ?_ HT_ rfl rfl (by kernel_rfl) (fun _ _ _ h => h) (Or.inl ⟨by rfl, ?_⟩) ?_ ?_ ?_
   rotate_left
   ·intro w'; go_simp; with_reducible rfl
   rotate_left
   ·simp only [Act.put, sA, sB, sC, i64_w]; rfl
   refine pu 9 (some 52) ?_ HT_ rfl rfl (by kernel_rfl) (fun _ _ _ h => h) (Or.inl ⟨by rfl, ?_⟩) ?_ ?_ ?_
   rotate_left
   ·intro w'; go_simp; with_reducible rfl
   rotate_left
   ·simp only [Act.put, sA, sB, sC, i64_w]; rfl
   refine pu 10 (some 53) ?_ HT_ rfl rfl (by kernel_rfl) (fun _ _ _ h => h) (Or.inl ⟨by rfl, ?_⟩) ?_ ?_ ?_
   rotate_left
   ·intro w'; go_simp; with_reducible rfl
   rotate_left
   ·simp only [Act.put, sA, sB, sC, i64_w]; rfl
   refine join_ (σ := Value × Value × Value) 3 #[true, true, true, true, true, true, true, false, true, true, true, false, false] (fun s_ => [(43, s_.1), (47, s_.2.1), (49, s_.2.2)]) (fun s_ w' => Kd.R (Kd.int .i64) 2 w' w0.heap.size P0_ (.slice A l0.length c) l0 ∧ Kd.R (Kd.int .i64) 2 w' wr.heap.size (fun _ => True) s_.2.1 (l0.take i) ∧ Kd.R (Kd.int .i64) 2 w' wr.heap.size (fun _ => True) s_.2.2 [a1] ∧ (∀ k, (s_.2.1 : Value).ownBlock = some k → some k ≠ (s_.2.2 : Value).ownBlock) ∧ Below wr.heap.size wr w') ?_ ?_
   rotate_left
   ·intro hCont
    refine two_ (i := 0) (j := 6) (Ni := some 43) (Nj := some 49) #[true, true, true, true, false, true, false, false, true, true, true, false, false] #[false, true, true, true, false, true, true, false, true, true, true, false, false] rfl rfl rfl rfl (two_of HT_.out (by kernel_rfl)) (by decide) (by decide) (fun K hK => ?_) (fun K hK => ?_)
    ·skip
     refine Kd.R_lit_step (Kd.int .i64) _ 2 (by rfl) (N := 43) rfl (xs := ([] : List Int)) (inner := []) (ok := fun _ => True) (okp := fun _ => True) ?hr ?hp (fun _ hk => hk) trivial (Below.refl _ _) (Nat.le_refl _) (by simp) ?_; (case hr => first | (go_simp; done) | (go_simp; rfl)); (case hp => exact (Reps.none _ _))
     intro va w1 ho hb hg hnew
     have hs := HB.out.size
     have HLn := Aside0.mk (Kd.R_below HL.out hb)
     have HRvan := Aside0.mk (Kd.R_lower ho hs)
     have HBn := Aside0.mk (below_step HB.out hb)
     clear HL HB
     have HL := HLn
     have HB := HBn
     clear HLn HBn
     have HRva := HRvan
     clear HRvan
     clear hb ho hg hnew hs
     refine hK.out _ _ trivial (fun hHeld => ?_)
     clear hK K
     refine norm_ (a' := ?_) ?_ ?_
     rotate_left
     ·show Act.put _ (some 43) _ = _; simp only [Act.put, sA, sB, sC, i64_w]; rfl
     refine two_ (i := 4) (j := 6) (Ni := some 47) (Nj := some 49) #[true, true, true, true, true, true, false, false, true, true, true, false, false] #[true, true, true, true, false, true, true, false, true, true, true, false, false] rfl rfl rfl rfl (two_of HT_.out (by kernel_rfl)) (by decide) (by decide) (fun K hK => ?_) (fun K hK => ?_)
     ·skip
      refine Kd.R_append_rows_step (Kd.int .i64) (w0 := wr) wr.heap.size (by rfl) (.tmp 43) (.tmp 46) 85 2 (.int .i64 0) 8 rfl Try.underlying85 infoI64 rfl (by decide) (by omega) va [] (l0.take i) _ _ _ (fun _ => True) (fun _ => False) rfl rfl HRva.out (by have h := Kd.C_take (m := i) (Kd.R_reads' HL.out).2.2 HI.out; rwa [List.length_take, Nat.min_eq_left HI.out] at h) (fun _ _ h => h) (fun _ h => h.elim) (fun _ _ => trivial) HB.out HB.out.size (by have h1 := HI.out; have h2 := HN2.out; simp; omega) ?_
      intro vb w2 ho hb hg hat
      have HLn := Aside0.mk (Kd.R_grown2 HL.out rfl hg (fun k hk he => by have h1 := Kd.R_base HRva.out k hk; have h2 := HLT.out k he.symm; omega))
      have HRvbn := Aside0.mk ho
      have HBn := Aside0.mk hb
      clear HL HB
      have HL := HLn
      have HB := HBn
      clear HLn HBn
      have HRvb := HRvbn
      clear HRvbn
      clear ho hb hg hat
      refine hK.out _ _ trivial (fun hHeld => ?_)
      clear hK K
      refine norm_ (a' := ?_) ?_ ?_
      rotate_left
      ·show Act.put _ (some 47) _ = _; simp only [Act.put, sA, sB, sC, i64_w]; rfl
      refine on 6 (some 49) HT_ rfl rfl (by kernel_rfl) (by decide) (fun K hK => ?_)
      refine Kd.R_lit_step (Kd.int .i64) _ 2 (by rfl) (N := 49) rfl (xs := ([a1] : List Int)) (inner := [.int .i64 a1]) (ok := fun _ => True) (okp := fun _ => True) ?hr ?hp (fun _ hk => hk) trivial (Below.refl _ _) (Nat.le_refl _) (by simp) ?_; (case hr => first | (go_simp; done) | (go_simp; rfl)); (case hp => exact (Reps.one (show Kd.M (Kd.int .i64) _ _ _ a1 [.int .i64 a1] from rfl) (Reps.none _ _)))
      intro vc w3 ho hb hg hnew
      have hs := HB.out.size
      have HLn := Aside0.mk (Kd.R_below HL.out hb)
      have HRvbn := Aside0.mk (Kd.R_below HRvb.out hb)
      have HRvcn := Aside0.mk (Kd.R_lower ho hs)
      have HNn := Aside0.mk (show ∀ k, (vb : Value).ownBlock = some k → some k ≠ (vc : Value).ownBlock from fun k hk he => by have h1 := Kd.R_lt HRvb.out k hk; have h2 := Kd.R_base ho k he.symm; omega)
      have HBn := Aside0.mk (below_step HB.out hb)
      clear HL HB HRvb
      have HL := HLn
      have HB := HBn
      clear HLn HBn
      have HRvb := HRvbn
      clear HRvbn
      have HRvc := HRvcn
      clear HRvcn
      have HN := HNn
      clear HNn
      clear hb ho hg hnew hs
      refine hK.out _ _ trivial (fun hHeld => ?_)
      clear hK K
      refine norm_ (a' := ?_) ?_ ?_
      rotate_left
      ·show Act.put _ (some 49) _ = _; simp only [Act.put, sA, sB, sC, i64_w]; rfl
      exact norm_ (by simp only [putAll, Act.put, List.setIfInBounds_toArray, List.set_cons_zero, List.set_cons_succ]) (hCont (va, vb, vc) _ ⟨HL.out, HRvb.out, HRvc.out, HN.out, HB.out⟩)
     ·skip
      refine Kd.R_lit_step (Kd.int .i64) _ 2 (by rfl) (N := 49) rfl (xs := ([a1] : List Int)) (inner := [.int .i64 a1]) (ok := fun _ => True) (okp := fun _ => True) ?hr ?hp (fun _ hk => hk) trivial (Below.refl _ _) (Nat.le_refl _) (by simp) ?_; (case hr => first | (go_simp; done) | (go_simp; rfl)); (case hp => exact (Reps.one (show Kd.M (Kd.int .i64) _ _ _ a1 [.int .i64 a1] from rfl) (Reps.none _ _)))
      intro vc w2 ho hb hg hnew
      have hs := HB.out.size
      have HLn := Aside0.mk (Kd.R_below HL.out hb)
      have HRvan := Aside0.mk (Kd.R_below HRva.out hb)
      have HRvcn := Aside0.mk (Kd.R_lower ho hs)
      have HNn := Aside0.mk (show ∀ k, (va : Value).ownBlock = some k → some k ≠ (vc : Value).ownBlock from fun k hk he => by have h1 := Kd.R_lt HRva.out k hk; have h2 := Kd.R_base ho k he.symm; omega)
      have HBn := Aside0.mk (below_step HB.out hb)
      clear HL HB HRva
      have HL := HLn
      have HB := HBn
      clear HLn HBn
      have HRva := HRvan
      clear HRvan
      have HRvc := HRvcn
      clear HRvcn
      have HN := HNn
      clear HNn
      clear hb ho hg hnew hs
      refine hK.out _ _ trivial (fun hHeld => ?_)
      clear hK K
      refine norm_ (a' := ?_) ?_ ?_
      rotate_left
      ·show Act.put _ (some 49) _ = _; simp only [Act.put, sA, sB, sC, i64_w]; rfl
      refine on 4 (some 47) HT_ rfl rfl (by kernel_rfl) (by decide) (fun K hK => ?_)
      refine Kd.R_append_rows_step (Kd.int .i64) (w0 := wr) wr.heap.size (by rfl) (.tmp 43) (.tmp 46) 85 2 (.int .i64 0) 8 rfl Try.underlying85 infoI64 rfl (by decide) (by omega) va [] (l0.take i) _ _ _ (fun _ => True) (fun _ => False) rfl rfl HRva.out (by have h := Kd.C_take (m := i) (Kd.R_reads' HL.out).2.2 HI.out; rwa [List.length_take, Nat.min_eq_left HI.out] at h) (fun _ _ h => h) (fun _ h => h.elim) (fun _ _ => trivial) HB.out HB.out.size (by have h1 := HI.out; have h2 := HN2.out; simp; omega) ?_
      intro vb w3 ho hb hg hat
      have HLn := Aside0.mk (Kd.R_grown2 HL.out rfl hg (fun k hk he => by have h1 := Kd.R_base HRva.out k hk; have h2 := HLT.out k he.symm; omega))
      have HRvcn := Aside0.mk (Kd.R_grown2 HRvc.out rfl hg (fun k hk => HN.out k hk))
      have HRvbn := Aside0.mk ho
      have HNn := Aside0.mk (show ∀ k, (vb : Value).ownBlock = some k → some k ≠ (vc : Value).ownBlock from fun k hk he => by
       rcases hat with h1 | ⟨b, h1, h2⟩
       ·exact HN.out k (h1 ▸ hk) he
       ·have h3 := Kd.R_lt HRvc.out k he.symm
        rw [h1] at hk
        injection hk with hk
        omega)
      have HBn := Aside0.mk hb
      clear HL HB HRvc
      have HL := HLn
      have HB := HBn
      clear HLn HBn
      have HRvc := HRvcn
      clear HRvcn
      have HRvb := HRvbn
      clear HRvbn
      have HN := HNn
      clear HNn
      clear ho hb hg hat
      refine hK.out _ _ trivial (fun hHeld => ?_)
      clear hK K
      refine norm_ (a' := ?_) ?_ ?_
      rotate_left
      ·show Act.put _ (some 47) _ = _; simp only [Act.put, sA, sB, sC, i64_w]; rfl
      exact norm_ (by simp only [putAll, Act.put, List.setIfInBounds_toArray, List.set_cons_zero, List.set_cons_succ]) (hCont (va, vb, vc) _ ⟨HL.out, HRvb.out, HRvc.out, HN.out, HB.out⟩)
    ·skip
     refine Kd.R_lit_step (Kd.int .i64) _ 2 (by rfl) (N := 49) rfl (xs := ([a1] : List Int)) (inner := [.int .i64 a1]) (ok := fun _ => True) (okp := fun _ => True) ?hr ?hp (fun _ hk => hk) trivial (Below.refl _ _) (Nat.le_refl _) (by simp) ?_; (case hr => first | (go_simp; done) | (go_simp; rfl)); (case hp => exact (Reps.one (show Kd.M (Kd.int .i64) _ _ _ a1 [.int .i64 a1] from rfl) (Reps.none _ _)))
     intro vc w1 ho hb hg hnew
     have hs := HB.out.size
     have HLn := Aside0.mk (Kd.R_below HL.out hb)
     have HRvcn := Aside0.mk (Kd.R_lower ho hs)
     have HBn := Aside0.mk (below_step HB.out hb)
     clear HL HB
     have HL := HLn
     have HB := HBn
     clear HLn HBn
     have HRvc := HRvcn
     clear HRvcn
     clear hb ho hg hnew hs
     refine hK.out _ _ trivial (fun hHeld => ?_)
     clear hK K
     refine norm_ (a' := ?_) ?_ ?_
     rotate_left
     ·show Act.put _ (some 49) _ = _; simp only [Act.put, sA, sB, sC, i64_w]; rfl
     refine on 0 (some 43) HT_ rfl rfl (by kernel_rfl) (by decide) (fun K hK => ?_)
     refine Kd.R_lit_step (Kd.int .i64) _ 2 (by rfl) (N := 43) rfl (xs := ([] : List Int)) (inner := []) (ok := fun _ => True) (okp := fun _ => True) ?hr ?hp (fun _ hk => hk) trivial (Below.refl _ _) (Nat.le_refl _) (by simp) ?_; (case hr => first | (go_simp; done) | (go_simp; rfl)); (case hp => exact (Reps.none _ _))
     intro va w2 ho hb hg hnew
     have hs := HB.out.size
     have HLn := Aside0.mk (Kd.R_below HL.out hb)
     have HRvcn := Aside0.mk (Kd.R_below HRvc.out hb)
     have HRvan := Aside0.mk (Kd.R_lower ho hs)
     have HNn := Aside0.mk (show ∀ k, (va : Value).ownBlock = some k → some k ≠ (vc : Value).ownBlock from fun k hk he => by have h1 := Kd.R_lt HRvc.out k he.symm; have h2 := Kd.R_base ho k hk; omega)
     have HBn := Aside0.mk (below_step HB.out hb)
     clear HL HB HRvc
     have HL := HLn
     have HB := HBn
     clear HLn HBn
     have HRvc := HRvcn
     clear HRvcn
     have HRva := HRvan
     clear HRvan
     have HN := HNn
     clear HNn
     clear hb ho hg hnew hs
     refine hK.out _ _ trivial (fun hHeld => ?_)
     clear hK K
     refine norm_ (a' := ?_) ?_ ?_
     rotate_left
     ·show Act.put _ (some 43) _ = _; simp only [Act.put, sA, sB, sC, i64_w]; rfl
     refine on 4 (some 47) HT_ rfl rfl (by kernel_rfl) (by decide) (fun K hK => ?_)
     refine Kd.R_append_rows_step (Kd.int .i64) (w0 := wr) wr.heap.size (by rfl) (.tmp 43) (.tmp 46) 85 2 (.int .i64 0) 8 rfl Try.underlying85 infoI64 rfl (by decide) (by omega) va [] (l0.take i) _ _ _ (fun _ => True) (fun _ => False) rfl rfl HRva.out (by have h := Kd.C_take (m := i) (Kd.R_reads' HL.out).2.2 HI.out; rwa [List.length_take, Nat.min_eq_left HI.out] at h) (fun _ _ h => h) (fun _ h => h.elim) (fun _ _ => trivial) HB.out HB.out.size (by have h1 := HI.out; have h2 := HN2.out; simp; omega) ?_
     intro vb w3 ho hb hg hat
     have HLn := Aside0.mk (Kd.R_grown2 HL.out rfl hg (fun k hk he => by have h1 := Kd.R_base HRva.out k hk; have h2 := HLT.out k he.symm; omega))
     have HRvcn := Aside0.mk (Kd.R_grown2 HRvc.out rfl hg (fun k hk => HN.out k hk))
     have HRvbn := Aside0.mk ho
     have HNn := Aside0.mk (show ∀ k, (vb : Value).ownBlock = some k → some k ≠ (vc : Value).ownBlock from fun k hk he => by
      rcases hat with h1 | ⟨b, h1, h2⟩
      ·exact HN.out k (h1 ▸ hk) he
      ·have h3 := Kd.R_lt HRvc.out k he.symm
       rw [h1] at hk
       injection hk with hk
       omega)
     have HBn := Aside0.mk hb
     clear HL HB HRvc
     have HL := HLn
     have HB := HBn
     clear HLn HBn
     have HRvc := HRvcn
     clear HRvcn
     have HRvb := HRvbn
     clear HRvbn
     have HN := HNn
     clear HNn
     clear ho hb hg hat
     refine hK.out _ _ trivial (fun hHeld => ?_)
     clear hK K
     refine norm_ (a' := ?_) ?_ ?_
     rotate_left
     ·show Act.put _ (some 47) _ = _; simp only [Act.put, sA, sB, sC, i64_w]; rfl
     exact norm_ (by simp only [putAll, Act.put, List.setIfInBounds_toArray, List.set_cons_zero, List.set_cons_succ]) (hCont (va, vb, vc) _ ⟨HL.out, HRvb.out, HRvc.out, HN.out, HB.out⟩)
   rintro ⟨va, vb, vc⟩ w10 ⟨h0_, h1_, h2_, h3_, h4_⟩
   clear HL HB
   have HL := Aside0.mk h0_
   have HRvb := Aside0.mk h1_
   have HRvc := Aside0.mk h2_
   have HN := Aside0.mk h3_
   have HB := Aside0.mk h4_
   clear h0_ h1_ h2_ h3_ h4_
   obtain ⟨Ac, cc, rfl⟩ := Kd.R_slice HRvc.out
   have hHeld := trivial
   refine norm_ (a' := ?_) ?_ ?_
   rotate_left
   ·simp only [putAll, Act.put, List.setIfInBounds_toArray, List.set_cons_zero, List.set_cons_succ]
    rfl
   refine on 7 (some 50) HT_ rfl rfl (by kernel_rfl) (by decide) (fun K hK => ?_)
   refine Kd.R_append_rows_step (Kd.int .i64) (w0 := wr) wr.heap.size (by rfl) (.tmp 47) (.tmp 49) 85 2 (.int .i64 0) 8 rfl Try.underlying85 infoI64 rfl (by decide) (by omega) vb (l0.take i) [a1] _ _ _ (fun _ => True) (fun _ => False) rfl rfl HRvb.out (Kd.R_reads' HRvc.out).2.2 (fun _ _ h => h) (fun _ h => h.elim) (fun _ _ => trivial) HB.out HB.out.size (by have h1 := HI.out; have h2 := HN2.out; simp; omega) ?_
   intro vd w11 ho hb hg hat
   have HLn := Aside0.mk (Kd.R_grown2 HL.out rfl hg (fun k hk he => by have h1 := Kd.R_base HRvb.out k hk; have h2 := HLT.out k he.symm; omega))
   have HRvdn := Aside0.mk ho
   have HBn := Aside0.mk hb
   clear HL HB
   have HL := HLn
   have HB := HBn
   clear HLn HBn
   have HRvd := HRvdn
   clear HRvdn
   clear ho hb hg hat
   refine hK.out _ _ trivial (fun hHeld => ?_)
   clear hK K
   refine norm_ (a' := ?_) ?_ ?_
   rotate_left
   ·show Act.put _ (some 50) _ = _; simp only [Act.put, sA, sB, sC, i64_w]; rfl
   refine on 11 (some 54) HT_ rfl rfl (by kernel_rfl) (by decide) (fun K hK => ?_)
   refine Kd.R_append_rows_step (Kd.int .i64) (w0 := wr) wr.heap.size (by rfl) (.tmp 50) (.tmp 53) 85 2 (.int .i64 0) 8 rfl Try.underlying85 infoI64 rfl (by decide) (by omega) vd (l0.take i ++ [a1]) (l0.drop i) _ _ _ (fun _ => True) (fun _ => False) rfl rfl HRvd.out (by have h := Kd.C_drop (m := i) (Kd.R_reads' HL.out).2.2 HI.out hc; rw [List.length_drop, HN2.out] at h; rw [← HA2.out]; exact h) (fun _ _ h => h) (fun _ h => h.elim) (fun _ _ => trivial) HB.out HB.out.size (by have h1 := HI.out; have h2 := HN2.out; simp; omega) ?_
   intro ve w12 ho hb hg hat
   have HLn := Aside0.mk (Kd.R_grown2 HL.out rfl hg (fun k hk he => by have h1 := Kd.R_base HRvd.out k hk; have h2 := HLT.out k he.symm; omega))
   have HRven := Aside0.mk ho
   have HBn := Aside0.mk hb
   clear HL HB
   have HL := HLn
   have HB := HBn
   clear HLn HBn
   have HRve := HRven
   clear HRven
   clear ho hb hg hat
   refine hK.out _ _ trivial (fun hHeld => ?_)
   clear hK K
   refine norm_ (a' := ?_) ?_ ?_
   rotate_left
   ·show Act.put _ (some 54) _ = _; simp only [Act.put, sA, sB, sC, i64_w]; rfl
   refine pu 12 (some 6) ?_ HT_ rfl rfl (by kernel_rfl) (fun _ _ _ h => h) (Or.inl ⟨by rfl, ?_⟩) ?_ ?_ ?_
   rotate_left
   ·intro w'; go_simp; with_reducible rfl
   rotate_left
   ·simp only [Act.put, sA, sB, sC, i64_w]; rfl
   refine done_ (done_of HT_.out (by kernel_rfl)) ?_
   go_wp2
   go_ret
   refine ⟨_, rfl, ?_, below_step HB0.out HB.out, Kept.of_below HB.out _⟩
   rw [HFin.out]
   exact Kd.R_lower (Kd.R_mono (Kd.R_bound HRve.out) (fun k hk => .inr hk.2.1)) HB0.out.size
end Go.Proofs.Ytlddccmgamlccaa.Us
