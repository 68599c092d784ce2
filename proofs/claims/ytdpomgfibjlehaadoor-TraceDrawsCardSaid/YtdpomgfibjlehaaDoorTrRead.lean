/- A part of the proofs over trace (TrRead): contracts of the program's functions and plain laws. Conditions: those that each theorem states. -/
import Derived.Test.YtdpomgfibjlehaaDoorTrFine
import Derived.Test.YtdpomgfibjlehaaDoorCurA
set_option linter.unusedVariables false
set_option linter.unusedSimpArgs false
/- trace.Read: what the reading of bytes comes to; where its walk stands. -/
namespace Go.Proofs.YtdpomgfibjlehaaDoor.Tr
open Go Go.Proofs Go.RowKit Go.Lib Go.Proofs.YtdpomgfibjlehaaDoorW.PrintWords Go.Proofs.YtdpomgfibjlehaaDoorW.PrintLast Go.Proofs.YtdpomgfibjlehaaDoorW.PrintMore Go.Proofs.YtdpomgfibjlehaaDoor.PTr Go.Proofs.YtdpomgfibjlehaaDoor.Cur

/-- what is told behind the last event -/
def finR (bs : List Int) (e : Int) (out : List S46) : List S46 × Int := if endOf bs e = 0 then (out, 0) else ([], 11)
/-- the event of five numbers, at a time -/
def evOf (at_ a1 a2 a3 a4 a5 : Int) : S46 := ⟨a1, a2, a3, IntKind.u64.wrap a4, at_, a5 != 0, a5⟩
/-- so many events more -/
def rdLoop : Nat → List Int → Int → Int → List S46 → List S46 × Int
  | 0, bs, e, _, out => finR bs e out
  | n + 1, bs, e, at_, out => if e = 0 then
      let a0 := intOf bs 0
      if 0 ≤ a0.1 ∧ a0.1 < 1099511627776 then
        let a1 := intOf a0.2.1 a0.2.2
        let a2 := intOf a1.2.1 a1.2.2
        let a3 := intOf a2.2.1 a2.2.2
        let a4 := intOf a3.2.1 a3.2.2
        let a5 := intOf a4.2.1 a4.2.2
        let x := evOf (at_ + a0.1) a1.1 a2.1 a3.1 a4.1 a5.1
        if rightB x then rdLoop n a5.2.1 a5.2.2 (at_ + a0.1) (out ++ [x]) else ([], 11)
      else ([], 11)
    else finR bs e out
def readL (bs : List Int) : List S46 × Int :=
  let s := smallOf 65536 bs 0
  rdLoop s.1.toNat s.2.1 s.2.2 0 []

/-- between two events: the cursor at p, the events so far -/
structure RS (w W : World) (p : Nat) (bs : List Int) (e : Int) (v : Value) (out : List S46) : Prop where
  cur : CurIs W p bs e
  below : Below w.heap.size w W
  out : Kd.R k46 46 W w.heap.size (fun k => p < k) v out
  hp : w.heap.size ≤ p
  hb : ∀ x ∈ bs, 0 ≤ x ∧ x < 256
  errT : ErrT W
section
variable {w W W1 : World} {p g : Nat} {bs bs' : List Int} {e e' : Int} {v : Value} {out : List S46} {cs cs' : Array Value}
theorem RS.pos (h : RS w W p bs e v out) (h0 : 0 < w.heap.size) : 0 < p := Nat.lt_of_lt_of_le h0 h.hp
theorem RS.bel (h : RS w W p bs e v out) (hB : Below W.heap.size W W1) : RS w W1 p bs e v out :=
  ⟨h.cur.below hB, below_step h.below hB, Kd.R_below h.out hB, h.hp, h.hb, h.errT.below hB⟩
theorem RS.only (h : RS w W p bs e v out) (h0 : 0 < w.heap.size) (ho : Only p W W1) (hc : CurIs W1 p bs' e') (hb : ∀ x ∈ bs', 0 ≤ x ∧ x < 256) : RS w W1 p bs' e' v out :=
  ⟨hc, h.below.trans (ho.below h.hp), Kd.R_step h.out (fun k hk _ => ho.block k (by omega)), h.hp, hb, h.errT.belowN (h.pos h0) (ho.below (Nat.le_refl p))⟩
/-- in an event: its cells at g -/
structure RG (w W : World) (p g : Nat) (cs : Array Value) (bs : List Int) (e : Int) (v : Value) (out : List S46) : Prop where
  cur : CurIs W p bs e
  below : Below w.heap.size w W
  out : Kd.R k46 46 W w.heap.size (fun k => p < k ∧ k ≠ g) v out
  hp : w.heap.size ≤ p
  hb : ∀ x ∈ bs, 0 ≤ x ∧ x < 256
  errT : ErrT W
  blk : W.heap[g]? = some (.cells cs 46 (0, 0))
  hg : p < g
theorem RS.event (h : RS w W p bs e v out) (cs : Array Value) : RG w (W.alloc (.cells cs 46)) p W.heap.size cs bs e v out :=
  have hB : Below W.heap.size W (W.alloc (.cells cs 46)) := (Below.refl _ W).alloc (Nat.le_refl _) _
  ⟨h.cur.below hB, below_step h.below hB, Kd.R_below (Kd.R_elderB h.out _ (Nat.le_refl _)) hB, h.hp, h.hb, h.errT.below hB, blk_new W _, h.cur.lt⟩
theorem RG.only (h : RG w W p g cs bs e v out) (h0 : 0 < w.heap.size) (ho : Only p W W1) (hc : CurIs W1 p bs' e') (hb : ∀ x ∈ bs', 0 ≤ x ∧ x < 256) : RG w W1 p g cs bs' e' v out :=
  ⟨hc, h.below.trans (ho.below h.hp), Kd.R_step h.out (fun k hk _ => ho.block k (by omega)), h.hp, hb, h.errT.belowN (Nat.lt_of_lt_of_le h0 h.hp) (ho.below (Nat.le_refl p)), (ho.block g (by have := h.hg; omega)).trans h.blk, h.hg⟩
theorem RG.set (h : RG w W p g cs bs e v out) (h0 : 0 < w.heap.size) (i : Nat) (u : Value) (hs : cs.setIfInBounds i u = cs') : RG w (W.setCell ⟨g, i, none⟩ u) p g cs' bs e v out := by
  have hg := h.hg
  have hp := h.hp
  have hk : ∀ k, k ≠ g → (W.setCell ⟨g, i, none⟩ u).heap[k]? = W.heap[k]? := fun k hk => Below.heap_setCell W ⟨g, i, none⟩ u k hk
  have hB : Below g W (W.setCell ⟨g, i, none⟩ u) := (Below.refl g W).setCell (p := ⟨g, i, none⟩) (Nat.le_refl _) u
  exact ⟨CurIs.same h.cur (fun k hk' => hk k (by omega)), h.below.setCell (p := ⟨g, i, none⟩) (by show w.heap.size ≤ g; omega) u, Kd.R_step h.out (fun k hk' _ => hk k hk'.2), h.hp, h.hb,
    h.errT.belowN (by omega) hB, blk_put h.blk i u hs, h.hg⟩
theorem RG.bel (h : RG w W p g cs bs e v out) (hB : Below W.heap.size W W1) : RG w W1 p g cs bs e v out :=
  ⟨h.cur.below hB, below_step h.below hB, Kd.R_below h.out hB, h.hp, h.hb, h.errT.below hB, blk_below h.blk hB, h.hg⟩
end
end Go.Proofs.YtdpomgfibjlehaaDoor.Tr

set_option linter.unusedVariables false
set_option linter.unusedSimpArgs false
/- trace.Read: the walk. -/
namespace Go.Proofs.YtdpomgfibjlehaaDoor.Tr
open Go Go.Proofs Go.RowKit Go.Lib Go.Proofs.YtdpomgfibjlehaaDoorW.PrintWords Go.Proofs.YtdpomgfibjlehaaDoorW.PrintLast Go.Proofs.YtdpomgfibjlehaaDoorW.PrintMore Go.Proofs.YtdpomgfibjlehaaDoor.PTr Go.Proofs.YtdpomgfibjlehaaDoor.Cur

theorem grpGo_bad : ∀ (bs : List Int) (i : Nat) (u : Int), (grpGo bs i u).1 ≠ 0 → (grpGo bs i u).2.1 = 0
  | [], _, _, _ => by simp [grpGo]
  | x :: r, i, u, h => by
    unfold grpGo at h ⊢
    split at h
    · rename_i h1; rw [if_pos h1]
    · rename_i h1
      rw [if_neg h1]
      split at h
      · exact absurd rfl h
      · rename_i h2; rw [if_neg h2]; exact grpGo_bad r _ _ h
theorem unf_zero : unf 0 = 0 := by kernel_rfl
theorem intOf_bad (bs : List Int) (e : Int) (h : (Cur.intOf bs e).2.2 ≠ 0) : (Cur.intOf bs e).1 = 0 := by
  unfold Cur.intOf at h ⊢
  split
  · rename_i he
    rw [if_pos he] at h
    show unf (grpGo bs 0 0).2.1 = 0
    rw [grpGo_bad bs 0 0 h, unf_zero]
  · exact unf_zero
theorem smallOf_range (most : Int) (hm : 0 ≤ most) (bs : List Int) (e : Int) : 0 ≤ (smallOf most bs e).1 ∧ (smallOf most bs e).1 ≤ most := by
  unfold smallOf
  split
  · exact ⟨Int.le_refl _, hm⟩
  · rename_i h
    by_cases h0 : (Cur.intOf bs e).2.2 = 0
    · have : ¬((Cur.intOf bs e).1 < 0 ∨ most < (Cur.intOf bs e).1) := fun h1 => h ⟨h0, h1⟩
      omega
    · rw [intOf_bad bs e h0]; exact ⟨Int.le_refl _, hm⟩
theorem rdLoop_eq {n : Nat} {bs b0 b1 b2 b3 b4 b5 : List Int} {at_ v0 v1 v2 v3 v4 v5 e0 e1 e2 e3 e4 e5 : Int} {out : List S46} (h0 : intOf bs 0 = (v0, b0, e0)) (h1 : intOf b0 e0 = (v1, b1, e1)) (h2 : intOf b1 e1 = (v2, b2, e2))
    (h3 : intOf b2 e2 = (v3, b3, e3)) (h4 : intOf b3 e3 = (v4, b4, e4)) (h5 : intOf b4 e4 = (v5, b5, e5)) :
    rdLoop (n + 1) bs 0 at_ out = if 0 ≤ v0 ∧ v0 < 1099511627776 then (if rightB (evOf (at_ + v0) v1 v2 v3 v4 v5) then rdLoop n b5 e5 (at_ + v0) (out ++ [evOf (at_ + v0) v1 v2 v3 v4 v5]) else ([], 11)) else ([], 11) := by
  rw [rdLoop]
  simp only [h0, h1, h2, h3, h4, h5, if_true]
theorem rdLoop_stop {n : Nat} {bs : List Int} {e at_ : Int} {out : List S46} (h : ¬(0 < n ∧ e = 0)) : rdLoop n bs e at_ out = finR bs e out := by
  cases n with
  | zero => rfl
  | succ n => rw [rdLoop, if_neg (fun he => h ⟨by omega, he⟩)]
theorem clamp_f (v : Int) : tick_Clamp.f v = some (mx 0 (mn v 1099511627776)) := rfl

set_option maxRecDepth 100000 in
set_option maxHeartbeats 16000000 in
theorem read_calls (A : Option Addr) (c : Nat) (l : List Int) (w : World) (hC : Kd.C (Kd.int .u8) w A l.length l) (hc : l.length ≤ c) (hm : l.length < 140737488355328) (hb : ∀ x ∈ l, 0 ≤ x ∧ x < 256) (hE : ErrT w) :
    Calls Tryd.prog 7 #[.slice A l.length c] w fun e w' => ∃ v, e = .returned (.tuple #[v, .int .i64 (readL l).2]) ∧ Kd.R k46 46 w' w.heap.size (fun _ => True) v (readL l).1 ∧ Below w.heap.size w w' := by
  have hw0 := hE.lt
  have hr := smallOf_range 65536 (by omega) l 0
  obtain ⟨⟨n0, c0, e0⟩, hs⟩ : ∃ r, smallOf 65536 l 0 = r := ⟨_, rfl⟩
  obtain ⟨R, hR⟩ : ∃ R, rdLoop n0.toNat c0 e0 0 [] = R := ⟨_, rfl⟩
  have hL : readL l = R := by unfold readL; rw [hs]; exact hR
  have hbc : ∀ x ∈ c0, 0 ≤ x ∧ x < 256 := fun x hx => hb x (smallOf_sub 65536 l 0 x (by rw [hs]; exact hx))
  rw [hs] at hr
  simp only at hr
  rw [hL]
  have HS := Aside0.mk hs
  have HBC := Aside0.mk hbc
  have HB := Aside0.mk hb
  have HE := Aside0.mk hE
  have HRR := Aside0.mk hR
  have HRD := Aside0.mk (Cur.read_calls A c l w hC hc hm)
  clear hs hbc hb hE hR hL hC
  go_enter Tryd.func7, Tryd.ntmps7
  go_wp2_with (first
    | (go_at_call 17; refine HRD.out.mono ?_; rintro ev w1 ⟨p, rfl, hp, hcur, hB⟩; have S0 := Aside0.mk (show RS w w1 p l 0 (.slice none 0 0) [] from ⟨hcur, hB, Kd.R_nil _ _ _ _ _, hp, HB.out, HE.out.below hB⟩); clear hcur hB)
    | (go_at_call 18; refine (small_calls p 65536 l 0 _ S0.out.cur S0.out.hb).mono ?_; rw [HS.out]; rintro ev w2 ⟨rfl, hc2, ho2⟩; have S1 := Aside0.mk (S0.out.only hw0 ho2 hc2 HBC.out); clear hc2 ho2))
  go_loopw [5, 6, 7] (fun v5 v6 v7 wr => ∃ (n : Nat) (bs : List Int) (e at_ : Int) (out : List S46), v6 = .int .i64 at_ ∧ v7 = .int .i64 (n : Int) ∧ 0 ≤ at_ ∧ at_ < 1099511627776 ∧ out.length + n ≤ 65536 ∧ rdLoop n bs e at_ out = R ∧ RS w wr p bs e v5 out) (fun v5 v6 v7 wr => natV v7)
  case atStart => exact ⟨n0.toNat, c0, e0, 0, [], rfl, by rw [show ((n0.toNat : Nat) : Int) = n0 by omega], by omega, by omega, by simp; omega, HRR.out, S1.out⟩
  case round =>
    obtain ⟨n, bs, e, at_, out, rfl, rfl, h0, h1, hlen, hg, hS⟩ := hrel
    clear S0 S1
    by_cases hgo : 0 < n ∧ e = 0
    · obtain ⟨hn, rfl⟩ := hgo
      obtain ⟨m, rfl⟩ : ∃ m, n = m + 1 := ⟨n - 1, by omega⟩
      obtain ⟨⟨v0, c1, e1⟩, h0e⟩ : ∃ r, Cur.intOf bs 0 = r := ⟨_, rfl⟩
      obtain ⟨⟨v1, c2, e2⟩, h1e⟩ : ∃ r, Cur.intOf c1 e1 = r := ⟨_, rfl⟩
      obtain ⟨⟨v2, c3, e3⟩, h2e⟩ : ∃ r, Cur.intOf c2 e2 = r := ⟨_, rfl⟩
      obtain ⟨⟨v3, c4, e4⟩, h3e⟩ : ∃ r, Cur.intOf c3 e3 = r := ⟨_, rfl⟩
      obtain ⟨⟨v4, c5, e5⟩, h4e⟩ : ∃ r, Cur.intOf c4 e4 = r := ⟨_, rfl⟩
      obtain ⟨⟨v5, c6, e6⟩, h5e⟩ : ∃ r, Cur.intOf c5 e5 = r := ⟨_, rfl⟩
      rw [rdLoop_eq h0e h1e h2e h3e h4e h5e] at hg
      have hB1 : ∀ x ∈ c1, 0 ≤ x ∧ x < 256 := fun x hx => hS.hb x (intOf_sub bs 0 x (by rw [h0e]; exact hx))
      have hB2 : ∀ x ∈ c2, 0 ≤ x ∧ x < 256 := fun x hx => hB1 x (intOf_sub c1 e1 x (by rw [h1e]; exact hx))
      have hB3 : ∀ x ∈ c3, 0 ≤ x ∧ x < 256 := fun x hx => hB2 x (intOf_sub c2 e2 x (by rw [h2e]; exact hx))
      have hB4 : ∀ x ∈ c4, 0 ≤ x ∧ x < 256 := fun x hx => hB3 x (intOf_sub c3 e3 x (by rw [h3e]; exact hx))
      have hB5 : ∀ x ∈ c5, 0 ≤ x ∧ x < 256 := fun x hx => hB4 x (intOf_sub c4 e4 x (by rw [h4e]; exact hx))
      have hB6 : ∀ x ∈ c6, 0 ≤ x ∧ x < 256 := fun x hx => hB5 x (intOf_sub c5 e5 x (by rw [h5e]; exact hx))
      have B1 := Aside0.mk hB1
      have B2 := Aside0.mk hB2
      have B3 := Aside0.mk hB3
      have B4 := Aside0.mk hB4
      have B5 := Aside0.mk hB5
      have B6 := Aside0.mk hB6
      have H0 := Aside0.mk h0e
      have H1 := Aside0.mk h1e
      have H2 := Aside0.mk h2e
      have H3 := Aside0.mk h3e
      have H4 := Aside0.mk h4e
      have H5 := Aside0.mk h5e
      have HS0 := Aside0.mk hS
      clear hB1 hB2 hB3 hB4 hB5 hB6 h0e h1e h2e h3e h4e h5e hS
      have b1 : decide (((m + 1 : Nat) : Int) > 0) = true := decide_eq_true (by omega)
      by_cases hv : 0 ≤ v0 ∧ v0 < 1099511627776
      · rw [if_pos hv] at hg
        have hcl : mx 0 (mn v0 1099511627776) = v0 := by unfold mx mn; omega
        have hwr : IntKind.i64.wrap (at_ + v0) = at_ + v0 := by rw [IntKind.wrap_i64]; omega
        have b2 : (v0 == 1099511627776) = false := by simp; omega
        have HCL := Aside0.mk ((clamp_f v0).trans (congrArg some hcl))
        obtain ⟨hv0, hv1⟩ := hv
        have hmx : at_ + v0 < 2199023255552 := by omega
        clear hcl
        obtain ⟨rb, hrb⟩ : ∃ b, rightB (evOf (at_ + v0) v1 v2 v3 v4 v5) = b := ⟨_, rfl⟩
        have HRB := Aside0.mk ((right_f (evOf (at_ + v0) v1 v2 v3 v4 v5)).trans (congrArg some hrb))
        have HRB2 := Aside0.mk hrb
        rw [hrb] at hg
        have HG := Aside0.mk hg
        clear hrb hg
        go_wp2_with (first
          | (go_at_call 19; refine (bad_calls p bs 0 _ HS0.out.cur HS0.out.errT).mono ?_; rintro ev w1 ⟨rfl, hb1⟩; have S1 := Aside0.mk (HS0.out.bel hb1); clear hb1)
          | (go_at_call 20; with_reducible refine (int_calls p bs 0 _ S1.out.cur S1.out.hb).mono ?_; rw [H0.out]; rintro ev w2 ⟨rfl, hc2, ho2⟩; have S2 := Aside0.mk (S1.out.only hw0 ho2 hc2 B1.out); clear hc2 ho2)
          | (go_at_call 21; refine (tick_Clamp.calls v0 _ _ HCL.out).mono ?_; rintro ev w3 ⟨rfl, hb3⟩; have S3 := Aside0.mk (S2.out.bel hb3); clear hb3))
        go_wp2_with (go_at_call 20; with_reducible refine (int_calls p c1 e1 _ S3.out.cur S3.out.hb).mono ?_; rw [H1.out]; rintro ev w4 ⟨rfl, hc4, ho4⟩; have S4 := Aside0.mk (S3.out.only hw0 ho4 hc4 B2.out); clear hc4 ho4)
        go_wp2_with (go_at_call 20; with_reducible refine (int_calls p c2 e2 _ S4.out.cur S4.out.hb).mono ?_; rw [H2.out]; rintro ev w5 ⟨rfl, hc5, ho5⟩; have S5 := Aside0.mk (S4.out.only hw0 ho5 hc5 B3.out); clear hc5 ho5)
        go_wp2_with (go_at_call 20; with_reducible refine (int_calls p c3 e3 _ S5.out.cur S5.out.hb).mono ?_; rw [H3.out]; rintro ev w6 ⟨rfl, hc6, ho6⟩; have S6 := Aside0.mk (S5.out.only hw0 ho6 hc6 B4.out); clear hc6 ho6)
        have G6 := Aside0.mk (S6.out.event #[.int .i64 v1, .int .i64 v2, .int .i64 v3, .int .u64 0, .int .i64 (at_ + v0), .bool false, .int .i64 0])
        go_wp2_with (go_at_call 20; with_reducible refine (int_calls p c4 e4 _ G6.out.cur G6.out.hb).mono ?_; rw [H4.out]; rintro ev w7 ⟨rfl, hc7, ho7⟩; have G7 := Aside0.mk (G6.out.only hw0 ho7 hc7 B5.out); clear hc7 ho7; have q3 : w7.cell? ⟨w6.heap.size, 3, none⟩ = some (.int .u64 0) := (blk_cell G7.out.blk 3).trans rfl; have f3 := blk_frozen G7.out.blk 3)
        have G8 := Aside0.mk (G7.out.set hw0 3 (.int .u64 (IntKind.u64.wrap v4)) (cs' := #[.int .i64 v1, .int .i64 v2, .int .i64 v3, .int .u64 (IntKind.u64.wrap v4), .int .i64 (at_ + v0), .bool false, .int .i64 0]) rfl)
        clear q3 f3
        go_wp2_with (go_at_call 20; with_reducible refine (int_calls p c5 e5 _ G8.out.cur G8.out.hb).mono ?_; rw [H5.out]; rintro ev w8 ⟨rfl, hc8, ho8⟩; have G9 := Aside0.mk (G8.out.only hw0 ho8 hc8 B6.out); clear hc8 ho8
                     have q0 : w8.cell? ⟨w6.heap.size, 0, none⟩ = some (.int .i64 v1) := (blk_cell G9.out.blk 0).trans rfl
                     have q1 : w8.cell? ⟨w6.heap.size, 1, none⟩ = some (.int .i64 v2) := (blk_cell G9.out.blk 1).trans rfl
                     have q2 : w8.cell? ⟨w6.heap.size, 2, none⟩ = some (.int .i64 v3) := (blk_cell G9.out.blk 2).trans rfl
                     have q3 : w8.cell? ⟨w6.heap.size, 3, none⟩ = some (.int .u64 (IntKind.u64.wrap v4)) := (blk_cell G9.out.blk 3).trans rfl
                     have q4 : w8.cell? ⟨w6.heap.size, 4, none⟩ = some (.int .i64 (at_ + v0)) := (blk_cell G9.out.blk 4).trans rfl
                     have q5 : w8.cell? ⟨w6.heap.size, 5, none⟩ = some (.bool false) := (blk_cell G9.out.blk 5).trans rfl
                     have q6 : w8.cell? ⟨w6.heap.size, 6, none⟩ = some (.int .i64 0) := (blk_cell G9.out.blk 6).trans rfl
                     have f5 := blk_frozen G9.out.blk 5
                     have f6 := blk_frozen G9.out.blk 6)
        have G10 := Aside0.mk ((G9.out.set hw0 6 (.int .i64 v5) (cs' := #[.int .i64 v1, .int .i64 v2, .int .i64 v3, .int .u64 (IntKind.u64.wrap v4), .int .i64 (at_ + v0), .bool false, .int .i64 v5]) rfl).set hw0 5 (.bool (v5 != 0)) (cs' := #[.int .i64 v1, .int .i64 v2, .int .i64 v3, .int .u64 (IntKind.u64.wrap v4), .int .i64 (at_ + v0), .bool (v5 != 0), .int .i64 v5]) rfl)
        clear q0 q1 q2 q3 q4 q5 q6 f5 f6
        cases rb with
        | false =>
          go_wp2_with (go_at_call 22; refine (trace_right.calls v1 v2 v3 (IntKind.u64.wrap v4) (at_ + v0) (v5 != 0) v5 _ _ HRB.out).mono ?_; rintro ev w9 ⟨rfl, hb9⟩; have G11 := Aside0.mk (G10.out.bel hb9); clear hb9)
          go_ret2
          have hg := HG.out
          rw [if_neg (by simp)] at hg
          subst hg
          exact ⟨_, rfl, Kd.R_nil _ _ _ _ _, G11.out.below⟩
        | true =>
          have hg := HG.out
          rw [if_pos rfl] at hg
          have HG2 := Aside0.mk hg
          clear hg HG
          go_wp2_with (first
            | (go_at_call 22; refine (trace_right.calls v1 v2 v3 (IntKind.u64.wrap v4) (at_ + v0) (v5 != 0) v5 _ _ HRB.out).mono ?_; rintro ev w9 ⟨rfl, hb9⟩; have G11 := Aside0.mk (G10.out.bel hb9); clear hb9; have q0 : w9.cell? ⟨w6.heap.size, 0, none⟩ = some (.int .i64 v1) := (blk_cell G11.out.blk 0).trans rfl; have q1 : w9.cell? ⟨w6.heap.size, 1, none⟩ = some (.int .i64 v2) := (blk_cell G11.out.blk 1).trans rfl; have q2 : w9.cell? ⟨w6.heap.size, 2, none⟩ = some (.int .i64 v3) := (blk_cell G11.out.blk 2).trans rfl; have q3 : w9.cell? ⟨w6.heap.size, 3, none⟩ = some (.int .u64 (IntKind.u64.wrap v4)) := (blk_cell G11.out.blk 3).trans rfl; have q4 : w9.cell? ⟨w6.heap.size, 4, none⟩ = some (.int .i64 (at_ + v0)) := (blk_cell G11.out.blk 4).trans rfl; have q5 : w9.cell? ⟨w6.heap.size, 5, none⟩ = some (.bool (v5 != 0)) := (blk_cell G11.out.blk 5).trans rfl; have q6 : w9.cell? ⟨w6.heap.size, 6, none⟩ = some (.int .i64 v5) := (blk_cell G11.out.blk 6).trans rfl)
            | ((with_reducible refine gate_builtin (b := .append) (xs := #[.tmp 58, .tmp 60]) rfl ?_); at_builtin
               refine Kd.R_append k46 (w0 := w) w.heap.size rfl (.tmp 58) (.tmp 60) 22 46 (.agg #[(.int .i64 0), (.int .i64 0), (.int .i64 0), (.int .u64 0), (.int .i64 0), (.bool false), (.int .i64 0)]) 56 rfl Tryd.underlying22 info46 rfl (by decide) (by omega) u5 out (evOf (at_ + v0) v1 v2 v3 v4 v5) [.int .i64 v1, .int .i64 v2, .int .i64 v3, .int .u64 (IntKind.u64.wrap v4), .int .i64 (at_ + v0), .bool (v5 != 0), .int .i64 v5] (fun k => p < k ∧ k ≠ w6.heap.size) (fun _ => False) rfl (by first | (go_simp; done) | (go_simp; rfl)) ?aP (fun _ hk => hk.elim) ?aF ?aO ?aB ?aS ?aL ?_
               (case aP => exact k46_mkM _ _ _ (evOf (at_ + v0) v1 v2 v3 v4 v5))
               (case aF => exact fun k hk => ⟨by have := G11.out.cur.lt; omega, by have := blk_lt G11.out.blk; omega⟩)
               (case aO => exact G11.out.out)
               (case aB => exact G11.out.below)
               (case aS => exact G11.out.below.size)
               (case aL => omega)
               intro v6 w10 hR10 hB10 hg10 hat10))
          go_roundw
          case rel =>
            have hrt := HRB2.out
            unfold rightB at hrt
            have hrt2 := of_decide_eq_true hrt
            have hat : at_ + v0 < 1099511627776 := hrt2.2.2.2.2.2.2.2.1
            have hne : ∀ k, u5.ownBlock = some k → p < k := fun k hk => (G11.out.out.1 k hk).1
            have hpl := G11.out.cur.lt
            refine ⟨m, c6, e6, at_ + v0, out ++ [evOf (at_ + v0) v1 v2 v3 v4 v5], rfl, rfl, by omega, hat, by rw [List.length_append, List.length_singleton]; omega, HG2.out, ?_⟩
            exact ⟨CurIs.same G11.out.cur (fun k hk => hg10.block k (by omega) (fun he => by have := hne k he.symm; omega)), hB10, Kd.R_mono hR10 (fun k hk => hk.1), G11.out.hp, B6.out, HE.out.below hB10⟩
          case measure => simp [natV]
      · rw [if_neg hv] at hg
        subst hg
        obtain ⟨z, hz⟩ : ∃ z, mx 0 (mn v0 1099511627776) = z := ⟨_, rfl⟩
        have HCL := Aside0.mk ((clamp_f v0).trans (congrArg some hz))
        by_cases hN : v0 = z
        · have b2 : (v0 != z) = false := by simp [hN]
          have b3 : (v0 == 1099511627776) = true := by simp; unfold mx mn at hz; omega
          clear hN hz hv
          go_wp2_with (first
            | (go_at_call 19; refine (bad_calls p bs 0 _ HS0.out.cur HS0.out.errT).mono ?_; rintro ev w1 ⟨rfl, hb1⟩; have S1 := Aside0.mk (HS0.out.bel hb1); clear hb1)
            | (go_at_call 20; with_reducible refine (int_calls p bs 0 _ S1.out.cur S1.out.hb).mono ?_; rw [H0.out]; rintro ev w2 ⟨rfl, hc2, ho2⟩; have S2 := Aside0.mk (S1.out.only hw0 ho2 hc2 B1.out); clear hc2 ho2)
            | (go_at_call 21; refine (tick_Clamp.calls v0 _ _ HCL.out).mono ?_; rintro ev w3 ⟨rfl, hb3⟩; have S3 := Aside0.mk (S2.out.bel hb3); clear hb3))
          go_ret2
          exact ⟨_, rfl, Kd.R_nil _ _ _ _ _, S3.out.below⟩
        · have b2 : (v0 != z) = true := by simp [hN]
          clear hN hz hv
          go_wp2_with (first
            | (go_at_call 19; refine (bad_calls p bs 0 _ HS0.out.cur HS0.out.errT).mono ?_; rintro ev w1 ⟨rfl, hb1⟩; have S1 := Aside0.mk (HS0.out.bel hb1); clear hb1)
            | (go_at_call 20; with_reducible refine (int_calls p bs 0 _ S1.out.cur S1.out.hb).mono ?_; rw [H0.out]; rintro ev w2 ⟨rfl, hc2, ho2⟩; have S2 := Aside0.mk (S1.out.only hw0 ho2 hc2 B1.out); clear hc2 ho2)
            | (go_at_call 21; refine (tick_Clamp.calls v0 _ _ HCL.out).mono ?_; rintro ev w3 ⟨rfl, hb3⟩; have S3 := Aside0.mk (S2.out.bel hb3); clear hb3))
          go_ret2
          exact ⟨_, rfl, Kd.R_nil _ _ _ _ _, S3.out.below⟩
    · have hf := (rdLoop_stop hgo).symm.trans hg
      obtain ⟨f, hff⟩ : ∃ f, endOf bs e = f := ⟨_, rfl⟩
      unfold finR at hf
      rw [hff] at hf
      have HF := Aside0.mk hff
      have HN := Aside0.mk hgo
      have HS2 := Aside0.mk hS
      clear hff hgo hg hS
      by_cases hn : 0 < n
      · have he : e ≠ 0 := fun he => HN.out ⟨hn, he⟩
        have b1 : decide ((n : Int) > 0) = true := decide_eq_true (by omega)
        have b2 : (e == 0) = false := by simpa using he
        clear he
        by_cases hf0 : f = 0
        · have b3 : (f != 0) = false := by simp [hf0]
          rw [if_pos hf0] at hf
          subst hf
          clear hf0
          go_wp2_with (first
            | (go_at_call 19; refine (bad_calls p bs e _ HS2.out.cur HS2.out.errT).mono ?_; rintro ev w3 ⟨rfl, hb3⟩; have S3 := Aside0.mk (HS2.out.bel hb3); clear hb3)
            | (go_at_call 23; refine (end_calls p bs e _ S3.out.cur S3.out.errT).mono ?_; rw [HF.out]; rintro ev w4 ⟨rfl, hb4⟩; have S4 := Aside0.mk (S3.out.bel hb4); clear hb4))
          go_ret2
          exact ⟨_, rfl, Kd.R_mono S4.out.out (fun _ _ => trivial), S4.out.below⟩
        · have b3 : (f != 0) = true := by simp [hf0]
          rw [if_neg hf0] at hf
          subst hf
          clear hf0
          go_wp2_with (first
            | (go_at_call 19; refine (bad_calls p bs e _ HS2.out.cur HS2.out.errT).mono ?_; rintro ev w3 ⟨rfl, hb3⟩; have S3 := Aside0.mk (HS2.out.bel hb3); clear hb3)
            | (go_at_call 23; refine (end_calls p bs e _ S3.out.cur S3.out.errT).mono ?_; rw [HF.out]; rintro ev w4 ⟨rfl, hb4⟩; have S4 := Aside0.mk (S3.out.bel hb4); clear hb4))
          go_ret2
          exact ⟨_, rfl, Kd.R_nil _ _ _ _ _, S4.out.below⟩
      · have b1 : decide ((n : Int) > 0) = false := decide_eq_false (by omega)
        by_cases hf0 : f = 0
        · have b3 : (f != 0) = false := by simp [hf0]
          rw [if_pos hf0] at hf
          subst hf
          clear hf0
          go_wp2_with (first
            | (go_at_call 23; refine (end_calls p bs e _ HS2.out.cur HS2.out.errT).mono ?_; rw [HF.out]; rintro ev w4 ⟨rfl, hb4⟩; have S4 := Aside0.mk (HS2.out.bel hb4); clear hb4))
          go_ret2
          exact ⟨_, rfl, Kd.R_mono S4.out.out (fun _ _ => trivial), S4.out.below⟩
        · have b3 : (f != 0) = true := by simp [hf0]
          rw [if_neg hf0] at hf
          subst hf
          clear hf0
          go_wp2_with (first
            | (go_at_call 23; refine (end_calls p bs e _ HS2.out.cur HS2.out.errT).mono ?_; rw [HF.out]; rintro ev w4 ⟨rfl, hb4⟩; have S4 := Aside0.mk (HS2.out.bel hb4); clear hb4))
          go_ret2
          exact ⟨_, rfl, Kd.R_nil _ _ _ _ _, S4.out.below⟩
end Go.Proofs.YtdpomgfibjlehaaDoor.Tr

set_option linter.unusedVariables false
set_option linter.unusedSimpArgs false
namespace Go.Proofs.YtdpomgfibjlehaaDoor.PTr
open Go Go.Proofs Go.RowKit Go.Proofs.YtdpomgfibjlehaaDoorW.PrintWords Go.Proofs.YtdpomgfibjlehaaDoorW.PrintLast Go.Proofs.YtdpomgfibjlehaaDoorW.PrintMore
/-- trace.Read, for the print -/
def trace_Read.f (l : List Int) : Option (List S46 × Int) := if (∀ x ∈ l, 0 ≤ x ∧ x < 256) ∧ l.length < 140737488355328 then some (Tr.readL l) else none
theorem trace_Read.calls (A0 : Option Addr) (c0 : Nat) (l0 : List Int) (r0 : List S46) (r1 : Int) (w : World) (hE : Cur.ErrT w) (hr0 : Kd.C (Kd.int .u8) w A0 l0.length l0) (hc0 : l0.length ≤ c0) (h : trace_Read.f l0 = some (r0, r1)) :
    Calls Tryd.prog 7 #[.slice A0 l0.length c0] w fun e w' => ∃ v0_ : Value, e = .returned (.tuple #[v0_, .int .i64 r1]) ∧ Kd.R k46 46 w' w.heap.size (fun _ => True) v0_ r0 ∧ Below w.heap.size w w' := by
  unfold trace_Read.f at h
  split at h
  · rename_i hn
    have h1 := Option.some.inj h
    have := Tr.read_calls A0 c0 l0 w hr0 hc0 hn.2 hn.1 hE
    rw [h1] at this
    exact this
  · cases h
end Go.Proofs.YtdpomgfibjlehaaDoor.PTr
