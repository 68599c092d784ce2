/- A part of the proofs over script (ScRead): contracts of the program's functions and plain laws. Conditions: those that each theorem states. -/
import Derived.Test.YtkkjjogbfjahgaaDoorScStep
import Derived.WalkMore
set_option linter.unusedVariables false
set_option linter.unusedSimpArgs false
/- script.Read, by hand. -/
namespace Go.Proofs.YtkkjjogbfjahgaaDoor.Sc
open Go Go.Proofs Go.RowKit Go.Proofs.YtkkjjogbfjahgaaDoorW.PrintWords Go.Proofs.YtkkjjogbfjahgaaDoorW.PrintLast Go.Proofs.YtkkjjogbfjahgaaDoorW.PrintMore Go.Proofs.YtkkjjogbfjahgaaDoor.Cur Go.Proofs.YtkkjjogbfjahgaaDoor.PSc

theorem intOf_err {bs : List Int} {e : Int} (h : e ≠ 0) : Cur.intOf bs e = (unf 0, bs, e) := by unfold Cur.intOf; rw [if_neg h]
theorem smallOf_err {most : Int} {bs : List Int} {e : Int} (h : e ≠ 0) : (smallOf most bs e).2.2 ≠ 0 := by
  unfold smallOf
  rw [intOf_err h, if_neg (fun hh => h hh.1)]; exact h
theorem textOf_err {bs : List Int} {e : Int} (h : e ≠ 0) : (textOf bs e).2.2 ≠ 0 := by
  unfold textOf
  dsimp only
  rw [if_pos (smallOf_err h)]; exact smallOf_err h
theorem intsN_err : ∀ (n : Nat) {bs : List Int} {e : Int}, e ≠ 0 → (intsN n bs e).2.2 ≠ 0
  | 0, _, _, h => h
  | n + 1, bs, e, h => by rw [intsN_step (intOf_err h)]; exact intsN_err n h
theorem grpGo_lt : ∀ (bs : List Int) (i : Nat) (u : Int), (grpGo bs i u).1 = 0 → (grpGo bs i u).2.2.length < bs.length
  | [], _, _, h => by simp [grpGo] at h
  | x :: r, i, u, h => by
    unfold grpGo at h ⊢
    split at h
    · simp at h
    · rename_i h1
      rw [if_neg h1]
      split at h
      · rename_i h2; rw [if_pos h2]; simp
      · rename_i h2; rw [if_neg h2]; have := grpGo_lt r _ _ h; simp; omega
theorem grpGo_le : ∀ (bs : List Int) (i : Nat) (u : Int), (grpGo bs i u).2.2.length ≤ bs.length
  | [], _, _ => by simp [grpGo]
  | x :: r, i, u => by
    unfold grpGo
    split
    · simp
    · split
      · simp
      · have := grpGo_le r (i + 1) (put7 u x i); simp; omega
theorem intOf_le (bs : List Int) (e : Int) : (Cur.intOf bs e).2.1.length ≤ bs.length := by
  unfold Cur.intOf
  split
  · exact grpGo_le bs 0 0
  · exact Nat.le_refl _
theorem smallOf_le (most : Int) (bs : List Int) (e : Int) : (smallOf most bs e).2.1.length ≤ bs.length := by
  unfold smallOf
  split
  · simp
  · exact intOf_le bs e
theorem textOf_le (bs : List Int) (e : Int) : (textOf bs e).2.1.length ≤ bs.length := by
  have h := smallOf_le 65536 bs e
  unfold textOf
  dsimp only
  split
  · exact h
  · split
    · simp
    · rw [List.length_drop]; omega
theorem intsN_le : ∀ (n : Nat) (bs : List Int) (e : Int), (intsN n bs e).2.1.length ≤ bs.length
  | 0, _, _ => Nat.le_refl _
  | n + 1, bs, e => by rw [intsN]; exact Nat.le_trans (intsN_le n _ _) (intOf_le bs e)
theorem smallOf_lt {bs : List Int} (h : (smallOf 5 bs 0).2.2 = 0) : (smallOf 5 bs 0).2.1.length < bs.length := by
  unfold smallOf at h ⊢
  split at h
  · simp at h
  · rename_i h1
    rw [if_neg h1]
    have e0 : Cur.intOf bs 0 = (unf (grpGo bs 0 0).2.1, (grpGo bs 0 0).2.2, (grpGo bs 0 0).1) := by unfold Cur.intOf; rw [if_pos rfl]
    rw [e0] at h ⊢
    exact grpGo_lt bs 0 0 h
theorem stepF_lt {k : Nat} {bs : List Int} {x : S42} {ec e' : Int} {bs' : List Int} (h : stepF k bs 0 = some (x, ec, bs', e')) (he : e' = 0) : bs'.length < bs.length := by
  have h5 : (smallOf 5 bs 0).2.2 = 0 → (smallOf 5 bs 0).2.1.length < bs.length := smallOf_lt
  unfold stepF at h
  generalize hs : smallOf 5 bs 0 = s at h h5
  obtain ⟨kd, b1, e1⟩ := s
  simp only at h h5
  have key : ∀ {b2 : List Int} {e2 : Int}, b2.length ≤ b1.length → (e1 ≠ 0 → e2 ≠ 0) → (b2, e2) = (bs', e') → bs'.length < bs.length := by
    intro b2 e2 hl hne heq
    obtain ⟨rfl, rfl⟩ := Prod.mk.inj heq
    have : e1 = 0 := Classical.byContradiction fun hc => hne hc he
    have := h5 this
    omega
  split at h
  · obtain ⟨c, _, h⟩ := Option.bind_eq_some_iff.mp h
    simp only [Option.some.injEq, Prod.mk.injEq] at h
    exact key (textOf_le b1 e1) textOf_err h.2.2
  · split at h
    · simp only [Option.some.injEq, Prod.mk.injEq] at h
      exact key (textOf_le b1 e1) textOf_err h.2.2
    · split at h
      · simp only [Option.some.injEq, Prod.mk.injEq] at h
        exact key (intOf_le b1 e1) (fun hc => by rw [intOf_err hc]; exact hc) h.2.2
      · split at h
        · simp only [Option.some.injEq, Prod.mk.injEq] at h
          exact key (intsN_le 4 b1 e1) (intsN_err 4) h.2.2
        · simp only [Option.some.injEq, Prod.mk.injEq] at h
          exact key (Nat.le_refl _) id (Prod.mk.injEq .. ▸ h.2.2)
theorem stepF_sub {k : Nat} {bs : List Int} {x : S42} {ec e' : Int} {bs' : List Int} (h : stepF k bs 0 = some (x, ec, bs', e')) : ∀ y ∈ bs', y ∈ bs := by
  have h5 := smallOf_sub 5 bs 0
  unfold stepF at h
  generalize hs : smallOf 5 bs 0 = s at h h5
  obtain ⟨kd, b1, e1⟩ := s
  simp only at h h5
  have hN : ∀ (n : Nat) (b : List Int) (e : Int), ∀ y ∈ (intsN n b e).2.1, y ∈ b := by
    intro n
    induction n with
    | zero => intro b e y hy; exact hy
    | succ n ih => intro b e y hy; rw [intsN] at hy; exact intOf_sub b e y (ih _ _ y hy)
  have key : ∀ {b2 : List Int} {e2 : Int}, (∀ y ∈ b2, y ∈ b1) → (b2, e2) = (bs', e') → ∀ y ∈ bs', y ∈ bs := by
    intro b2 e2 hl heq
    obtain ⟨rfl, rfl⟩ := Prod.mk.inj heq
    exact fun y hy => h5 y (hl y hy)
  split at h
  · obtain ⟨c, _, h⟩ := Option.bind_eq_some_iff.mp h
    simp only [Option.some.injEq, Prod.mk.injEq] at h
    exact key (textOf_sub b1 e1) h.2.2
  · split at h
    · simp only [Option.some.injEq, Prod.mk.injEq] at h
      exact key (textOf_sub b1 e1) h.2.2
    · split at h
      · simp only [Option.some.injEq, Prod.mk.injEq] at h
        exact key (intOf_sub b1 e1) h.2.2
      · split at h
        · simp only [Option.some.injEq, Prod.mk.injEq] at h
          exact key (hN 4 b1 e1) h.2.2
        · simp only [Option.some.injEq, Prod.mk.injEq] at h
          exact key (fun y hy => hy) (Prod.mk.injEq .. ▸ h.2.2)
/-- so many steps at most -/
def readS : Nat → List Int → List S42 → Option (List S42 × Int)
  | 0, _, _ => none
  | n + 1, bs, out => if bs.length = 0 then some (out, 0) else (stepF 10 bs 0).bind fun s => (script_Step_Right.f 10 s.1.f0 s.1.f1.f0 s.1.f1.f1 s.1.f1.f2 s.1.f1.f3 s.1.f1.f4 s.1.f1.f5 s.1.f1.f6 s.1.f1.f7 s.1.f1.f8 s.1.f1.f9 s.1.f1.f10 s.1.f1.f11 s.1.f2 s.1.f3 s.1.f4.f0 s.1.f4.f1 s.1.f4.f2 s.1.f4.f3).bind fun r =>
      if (decide (s.2.1 = 0) && (decide (s.2.2.2 = 0) && r)) = true then readS n s.2.2.1 (out ++ [s.1]) else some (out, 11)
end Go.Proofs.YtkkjjogbfjahgaaDoor.Sc

set_option linter.unusedVariables false
set_option linter.unusedSimpArgs false
/- script.Read, by hand: its walk. -/
namespace Go.Proofs.YtkkjjogbfjahgaaDoor.Sc
open Go Go.Proofs Go.RowKit Go.Proofs.YtkkjjogbfjahgaaDoorW.PrintWords Go.Proofs.YtkkjjogbfjahgaaDoorW.PrintLast Go.Proofs.YtkkjjogbfjahgaaDoorW.PrintMore Go.Proofs.YtkkjjogbfjahgaaDoor.Cur Go.Proofs.YtkkjjogbfjahgaaDoor.PSc

/-- how many bytes the cursor at p has -/
def lenAt (W : World) (p : Nat) : Nat := match W.cell? ⟨p, 0, none⟩ with
  | some (.slice _ n _) => n
  | _ => 0
theorem lenAt_cur {W : World} {p : Nat} {bs : List Int} {e : Int} (h : CurIs W p bs e) : lenAt W p = bs.length := by
  obtain ⟨A, c, hp, _⟩ := h
  have : W.cell? ⟨p, 0, none⟩ = some (.slice A bs.length c) := (blk_cell hp 0).trans rfl
  unfold lenAt
  rw [this]
/-- between two steps: the cursor at p, the steps so far -/
structure RP (w W : World) (p : Nat) (bs : List Int) (e : Int) (v : Value) (out : List S42) : Prop where
  cur : CurIs W p bs e
  below : Below w.heap.size w W
  out : Kd.R k42 42 W w.heap.size (fun k => p < k) v out
  hp : w.heap.size ≤ p
  hb : ∀ x ∈ bs, 0 ≤ x ∧ x < 256
  errT : ErrT W
  h0 : 0 < p
section
variable {w W W1 : World} {p g : Nat} {bs bs' : List Int} {e e' : Int} {v : Value} {out : List S42}
theorem RP.bel (h : RP w W p bs e v out) (hB : Below W.heap.size W W1) : RP w W1 p bs e v out :=
  ⟨h.cur.below hB, below_step h.below hB, Kd.R_below h.out hB, h.hp, h.hb, h.errT.below hB, h.h0⟩
theorem RP.near (h : RP w W p bs e v out) (hn : Near p W W1) (hc : CurIs W1 p bs' e') (hb : ∀ x ∈ bs', 0 ≤ x ∧ x < 256) : RP w W1 p bs' e' v out := by
  have hlt := h.cur.lt
  have hB := hn.below (n := p) (Nat.le_refl p) hlt
  exact ⟨hc, h.below.trans (hn.below h.hp hlt), Kd.R_step h.out (fun k hk hl => hn.block k hl (by omega)), h.hp, hb, h.errT.belowN h.h0 hB, h.h0⟩
/-- with a block of its own, g -/
structure RPG (w W : World) (p g : Nat) (cs : Array Value) (bs : List Int) (e : Int) (v : Value) (out : List S42) : Prop where
  cur : CurIs W p bs e
  below : Below w.heap.size w W
  out : Kd.R k42 42 W w.heap.size (fun k => p < k ∧ k ≠ g) v out
  hp : w.heap.size ≤ p
  hb : ∀ x ∈ bs, 0 ≤ x ∧ x < 256
  errT : ErrT W
  h0 : 0 < p
  blk : W.heap[g]? = some (.cells cs 42 (0, 0))
  hg : p < g
theorem RP.alloc (h : RP w W p bs e v out) (hB : Below W.heap.size W W1) {cs : Array Value} (hg : g = W.heap.size) (hb : W1.heap[g]? = some (.cells cs 42 (0, 0))) : RPG w W1 p g cs bs e v out := by
  subst hg
  exact ⟨h.cur.below hB, below_step h.below hB, Kd.R_below (Kd.R_elderB h.out _ (Nat.le_refl _)) hB, h.hp, h.hb, h.errT.below hB, h.h0, hb, h.cur.lt⟩
theorem RPG.fill {cs cs' : Array Value} (h : RPG w W p g cs bs e v out) (ho : Only g W W1) (hs : W1.heap[g]? = some (.cells cs' 42 (0, 0))) : RPG w W1 p g cs' bs e v out := by
  have h1 := h.hp
  have h2 := h.hg
  have h3 := h.h0
  exact ⟨h.cur.same (fun k hk => ho.block k (by omega)), h.below.trans (ho.below (by omega)), Kd.R_step h.out (fun k hk _ => ho.block k hk.2), h.hp, h.hb, h.errT.belowN (n := g) (by omega) (ho.below (Nat.le_refl g)), h3, hs, h2⟩
end
set_option maxRecDepth 100000 in
set_option maxHeartbeats 16000000 in
theorem scriptRead_calls (A : Option Addr) (c : Nat) (l : List Int) (w : World) (hC : Kd.C (Kd.int .u8) w A l.length l) (hc : l.length ≤ c) (hm : l.length < 140737488355328) (hb : ∀ x ∈ l, 0 ≤ x ∧ x < 256) (hE : ErrT w) (R : List S42 × Int)
    (hR : (if 65536 < l.length then some ([], 3) else readS (l.length + 1) l []) = some R) :
    Calls Tryd.prog 6 #[.slice A l.length c] w fun ev w' => ∃ v, ev = .returned (.tuple #[v, .int .i64 R.2]) ∧ Kd.R k42 42 w' w.heap.size (fun _ => True) v R.1 ∧ Below w.heap.size w w' := by
  have hw0 := hE.lt
  have hu42 := Tryd.underlying42
  by_cases hbig : 65536 < l.length
  · rw [if_pos hbig] at hR
    have b1 : decide ((l.length : Int) > 65536) = true := decide_eq_true (by omega)
    obtain rfl := Option.some.inj hR
    clear hR hbig hb hE
    go_enter Tryd.func6, Tryd.ntmps6
    go_wp2
    apply wp_scope_straight
    go_wp2
    simp only [Exit.noGoto_ret]
    go_ret2
    exact ⟨_, rfl, Kd.R_nil _ _ _ _ _, Below.refl _ _⟩
  · rw [if_neg hbig] at hR
    have b1 : decide ((l.length : Int) > 65536) = false := decide_eq_false (by omega)
    have HRD := Aside0.mk (Cur.read_calls A c l w hC hc hm)
    have HB := Aside0.mk hb
    have HE := Aside0.mk hE
    have HR := Aside0.mk hR
    have HBG := Aside0.mk hbig
    clear hb hE hR hC hbig
    go_enter Tryd.func6, Tryd.ntmps6
    go_wp2
    apply wp_scope_straight
    go_wp2_with (first
      | go_step3
      | (go_at_call 16; refine HRD.out.mono ?_; rintro ev w1 ⟨p, rfl, hp, hcur, hB⟩; have S0 := Aside0.mk (show RP w w1 p l 0 (.slice none 0 0) [] from ⟨hcur, hB, Kd.R_nil _ _ _ _ _, hp, HB.out, HE.out.below hB, Nat.lt_of_lt_of_le hw0 hp⟩); clear hcur hB hp))
    go_loopw [4, 5] (fun v4 v5 wr => ∃ n bs out, v5 = .int .i64 0 ∧ out.length + bs.length ≤ 65536 ∧ readS n bs out = some R ∧ RP w wr p bs 0 v4 out) (fun v4 v5 wr => lenAt wr p)
    case atStart => exact ⟨l.length + 1, l, [], rfl, by have := HBG.out; simp; omega, HR.out, S0.out⟩
    case round =>
      obtain ⟨n, bs, out, rfl, hlen, hg, hS⟩ := hrel
      clear S0
      obtain ⟨m, rfl⟩ : ∃ m, n = m + 1 := ⟨n - 1, by cases n with | zero => simp [readS] at hg | succ n => simp⟩
      rw [readS] at hg
      by_cases hz : bs.length = 0
      · rw [if_pos hz] at hg
        obtain rfl := Option.some.inj hg
        have b2 : decide (0 < bs.length) = false := decide_eq_false (by omega)
        have HS := Aside0.mk hS
        have HRS := Aside0.mk (Cur.rest_calls p bs 0 _ hS.cur)
        clear hS hz hg
        go_wp2_with (go_at_call 17; refine HRS.out.mono ?_; rintro ev w2 ⟨rfl, hw2⟩; rw [hw2]; clear hw2)
        simp only [Exit.noGoto_ret]
        go_ret2
        exact ⟨_, rfl, Kd.R_mono HS.out.out (fun _ _ => trivial), HS.out.below⟩
      · rw [if_neg hz] at hg
        obtain ⟨⟨x, ec, bs', e'⟩, hst, hg0⟩ := Option.bind_eq_some_iff.mp hg; clear hg
        obtain ⟨r, hr, hg⟩ := Option.bind_eq_some_iff.mp hg0; clear hg0
        simp only at hr hg
        have b2 : decide (0 < bs.length) = true := decide_eq_true (by omega)
        have HRS := Aside0.mk (Cur.rest_calls p bs 0 _ hS.cur)
        have HST := Aside0.mk (step_calls 10 p bs 0 _ hS.cur hS.h0 hS.hb hS.errT x ec bs' e' hst r hr)
        have HBB := Aside0.mk (fun y hy => hS.hb y (stepF_sub hst y hy))
        have HS := Aside0.mk hS
        obtain ⟨ok, hok⟩ : ∃ b, (decide (ec = 0) && (decide (e' = 0) && r)) = b := ⟨_, rfl⟩
        rw [hok] at hg
        have HOK := Aside0.mk hok
        have HSTE := Aside0.mk hst
        have HZ := Aside0.mk hz
        clear hS hz hok hst hr
        cases ok with
        | false =>
          rw [if_neg (by simp)] at hg
          obtain rfl := Option.some.inj hg
          clear hg
          go_wp2_with (first
          | (go_at_call 17; refine HRS.out.mono ?_; rintro ev w2 ⟨rfl, hw2⟩; rw [hw2]; clear hw2)
          | (go_at_call 18; refine HST.out.mono ?_; rintro ev w2 ⟨rfl, hc2, hn2⟩; rw [HOK.out]; have S1 := Aside0.mk (HS.out.near hn2 hc2 HBB.out); clear hc2 hn2)
          | ((with_reducible refine gate_dst (N := 7) rfl ?_); refine box_event rfl (N := 7) rfl (cs := #[.int .i64 0, .int .i64 0, .int .i64 0, .int .i64 0, .int .i64 0, .int .i64 0, .int .i64 0, .int .i64 0, .int .i64 0, .int .i64 0, .int .i64 0, .int .i64 0, .bool false, .string (⟨#[]⟩ : ByteArray), .int .i64 0, .int .i64 0, .int .i64 0, .int .i64 0, .int .i64 0]) (t := 42) (by first | (go_simp; done) | (go_simp; rfl)) ?_; intro g e3 w3 b3 B3; have S2 := Aside0.mk (S1.out.alloc B3 e3 b3); clear e3 b3 B3)
          | ((with_reducible refine gate_op (x := .store 42 (.tmp 7) (.tmp 20)) rfl ?_); refine rowStore (by rfl) (by rfl) (by rfl) (t0 := 42) (g := g) (cs := #[.int .i64 0, .int .i64 0, .int .i64 0, .int .i64 0, .int .i64 0, .int .i64 0, .int .i64 0, .int .i64 0, .int .i64 0, .int .i64 0, .int .i64 0, .int .i64 0, .bool false, .string (⟨#[]⟩ : ByteArray), .int .i64 0, .int .i64 0, .int .i64 0, .int .i64 0, .int .i64 0]) (cs' := #[.int .i64 x.f0, .int .i64 x.f1.f0, .int .i64 x.f1.f1, .int .i64 x.f1.f2, .int .i64 x.f1.f3, .int .i64 x.f1.f4, .int .i64 x.f1.f5, .int .i64 x.f1.f6, .int .i64 x.f1.f7, .int .i64 x.f1.f8, .int .i64 x.f1.f9, .int .i64 x.f1.f10, .bool x.f1.f11, .string x.f2, .int .i64 x.f3, .int .i64 x.f4.f0, .int .i64 x.f4.f1, .int .i64 x.f4.f2, .int .i64 x.f4.f3]) (by rfl) (by rfl) ?hB (by kernel_rfl) (by rfl) (by simp [Value.oneCell']) ?_; (case hB => exact S2.out.blk); intro w4 b4 o4; have S3 := Aside0.mk (S2.out.fill o4 b4); clear b4 o4))
          simp only [Exit.noGoto_ret]
          go_ret2
          exact ⟨_, rfl, Kd.R_mono S3.out.out (fun _ _ => trivial), S3.out.below⟩
        | true =>
          rw [if_pos rfl] at hg
          have HG := Aside0.mk hg
          clear hg
          go_wp2_with (first
          | (go_at_call 17; refine HRS.out.mono ?_; rintro ev w2 ⟨rfl, hw2⟩; rw [hw2]; clear hw2)
          | (go_at_call 18; refine HST.out.mono ?_; rintro ev w2 ⟨rfl, hc2, hn2⟩; rw [HOK.out]; have S1 := Aside0.mk (HS.out.near hn2 hc2 HBB.out); clear hc2 hn2)
          | ((with_reducible refine gate_dst (N := 7) rfl ?_); refine box_event rfl (N := 7) rfl (cs := #[.int .i64 0, .int .i64 0, .int .i64 0, .int .i64 0, .int .i64 0, .int .i64 0, .int .i64 0, .int .i64 0, .int .i64 0, .int .i64 0, .int .i64 0, .int .i64 0, .bool false, .string (⟨#[]⟩ : ByteArray), .int .i64 0, .int .i64 0, .int .i64 0, .int .i64 0, .int .i64 0]) (t := 42) (by first | (go_simp; done) | (go_simp; rfl)) ?_; intro g e3 w3 b3 B3; have S2 := Aside0.mk (S1.out.alloc B3 e3 b3); clear e3 b3 B3)
          | ((with_reducible refine gate_op (x := .store 42 (.tmp 7) (.tmp 20)) rfl ?_); refine rowStore (by rfl) (by rfl) (by rfl) (t0 := 42) (g := g) (cs := #[.int .i64 0, .int .i64 0, .int .i64 0, .int .i64 0, .int .i64 0, .int .i64 0, .int .i64 0, .int .i64 0, .int .i64 0, .int .i64 0, .int .i64 0, .int .i64 0, .bool false, .string (⟨#[]⟩ : ByteArray), .int .i64 0, .int .i64 0, .int .i64 0, .int .i64 0, .int .i64 0]) (cs' := #[.int .i64 x.f0, .int .i64 x.f1.f0, .int .i64 x.f1.f1, .int .i64 x.f1.f2, .int .i64 x.f1.f3, .int .i64 x.f1.f4, .int .i64 x.f1.f5, .int .i64 x.f1.f6, .int .i64 x.f1.f7, .int .i64 x.f1.f8, .int .i64 x.f1.f9, .int .i64 x.f1.f10, .bool x.f1.f11, .string x.f2, .int .i64 x.f3, .int .i64 x.f4.f0, .int .i64 x.f4.f1, .int .i64 x.f4.f2, .int .i64 x.f4.f3]) (by rfl) (by rfl) ?hB (by kernel_rfl) (by rfl) (by simp [Value.oneCell']) ?_; (case hB => exact S2.out.blk); intro w4 b4 o4; have S3 := Aside0.mk (S2.out.fill o4 b4); clear b4 o4)
          | ((with_reducible refine gate_op (x := .load 42 (.tmp 7)) rfl ?_); refine rowLoad (by rfl) (by rfl) (t0 := 42) (g := g) (cs := #[.int .i64 x.f0, .int .i64 x.f1.f0, .int .i64 x.f1.f1, .int .i64 x.f1.f2, .int .i64 x.f1.f3, .int .i64 x.f1.f4, .int .i64 x.f1.f5, .int .i64 x.f1.f6, .int .i64 x.f1.f7, .int .i64 x.f1.f8, .int .i64 x.f1.f9, .int .i64 x.f1.f10, .bool x.f1.f11, .string x.f2, .int .i64 x.f3, .int .i64 x.f4.f0, .int .i64 x.f4.f1, .int .i64 x.f4.f2, .int .i64 x.f4.f3]) (by rfl) ?hB hu42 rfl (by kernel_rfl) ?_; (case hB => exact S3.out.blk))
          | ((with_reducible refine gate_builtin (b := .append) (xs := #[.tmp 24, .tmp 26]) rfl ?_); at_builtin
             refine Kd.R_append k42 (w0 := w) w.heap.size rfl (.tmp 24) (.tmp 26) 23 42 (.agg #[(.int .i64 0), (.int .i64 0), (.int .i64 0), (.int .i64 0), (.int .i64 0), (.int .i64 0), (.int .i64 0), (.int .i64 0), (.int .i64 0), (.int .i64 0), (.int .i64 0), (.int .i64 0), (.bool false), (.string ⟨#[]⟩), (.int .i64 0), (.int .i64 0), (.int .i64 0), (.int .i64 0), (.int .i64 0)]) 160 rfl Tryd.underlying23 info42 rfl (by decide) (by omega) u4 out x [.int .i64 x.f0, .int .i64 x.f1.f0, .int .i64 x.f1.f1, .int .i64 x.f1.f2, .int .i64 x.f1.f3, .int .i64 x.f1.f4, .int .i64 x.f1.f5, .int .i64 x.f1.f6, .int .i64 x.f1.f7, .int .i64 x.f1.f8, .int .i64 x.f1.f9, .int .i64 x.f1.f10, .bool x.f1.f11, .string x.f2, .int .i64 x.f3, .int .i64 x.f4.f0, .int .i64 x.f4.f1, .int .i64 x.f4.f2, .int .i64 x.f4.f3] (fun k => p < k ∧ k ≠ g) (fun _ => False) rfl (by first | (go_simp; done) | (go_simp; rfl)) ?aP (fun _ hk => hk.elim) ?aF ?aO ?aB ?aS ?aL ?_
             (case aP => exact k42_mkM _ _ _ x)
             (case aF => exact fun k hk => ⟨by have := S3.out.cur.lt; omega, by have := blk_lt S3.out.blk; omega⟩)
             (case aO => exact S3.out.out)
             (case aB => exact S3.out.below)
             (case aS => exact S3.out.below.size)
             (case aL => omega)
             intro v5 w5 hR5 hB5 hg5 hat5))
          go_roundw
          case rel =>
            have hok := HOK.out
            simp only [Bool.and_eq_true, decide_eq_true_eq] at hok
            obtain ⟨hec, he', hrr⟩ := hok
            subst he'
            have hlt := stepF_lt HSTE.out rfl
            have hne : ∀ k, u4.ownBlock = some k → p < k := fun k hk => (S3.out.out.1 k hk).1
            have hpl := S3.out.cur.lt
            refine ⟨m, bs', out ++ [x], rfl, by rw [List.length_append, List.length_singleton]; omega, HG.out, ?_⟩
            exact ⟨CurIs.same S3.out.cur (fun k hk => hg5.block k (by omega) (fun he => by have := hne k he.symm; omega)), hB5, Kd.R_mono hR5 (fun k hk => hk.1), S3.out.hp, HBB.out, HE.out.below hB5, S3.out.h0⟩
          case measure =>
            have hok := HOK.out
            simp only [Bool.and_eq_true, decide_eq_true_eq] at hok
            have hlt := stepF_lt HSTE.out hok.2.1
            have hne : ∀ k, u4.ownBlock = some k → p < k := fun k hk => (S3.out.out.1 k hk).1
            have hpl := S3.out.cur.lt
            have hc5 := CurIs.same S3.out.cur (fun k hk => hg5.block k (by omega) (fun he => by have := hne k he.symm; omega))
            rw [lenAt_cur hc5, lenAt_cur HS.out.cur]
            exact hlt
end Go.Proofs.YtkkjjogbfjahgaaDoor.Sc

set_option linter.unusedVariables false
set_option linter.unusedSimpArgs false
namespace Go.Proofs.YtkkjjogbfjahgaaDoor.PSc
open Go Go.Proofs Go.RowKit Go.Proofs.YtkkjjogbfjahgaaDoorW.PrintWords Go.Proofs.YtkkjjogbfjahgaaDoorW.PrintLast Go.Proofs.YtkkjjogbfjahgaaDoorW.PrintMore
/-- script.Read, for the print -/
def script_Read.f (l : List Int) : Option (List S42 × Int) :=
  if (∀ x ∈ l, 0 ≤ x ∧ x < 256) ∧ l.length < 140737488355328 then (if 65536 < l.length then some ([], 3) else Sc.readS (l.length + 1) l []) else none
theorem script_Read.calls (A0 : Option Addr) (c0 : Nat) (l0 : List Int) (r0 : List S42) (r1 : Int) (w : World) (hE : Cur.ErrT w) (hr0 : Kd.C (Kd.int .u8) w A0 l0.length l0) (hc0 : l0.length ≤ c0) (h : script_Read.f l0 = some (r0, r1)) :
    Calls Tryd.prog 6 #[.slice A0 l0.length c0] w fun e w' => ∃ v0_ : Value, e = .returned (.tuple #[v0_, .int .i64 r1]) ∧ Kd.R k42 42 w' w.heap.size (fun _ => True) v0_ r0 ∧ Below w.heap.size w w' := by
  unfold script_Read.f at h
  split at h
  · rename_i hn
    have := Sc.scriptRead_calls A0 c0 l0 w hr0 hc0 hn.2 hn.1 hE (r0, r1) h
    exact this
  · cases h
end Go.Proofs.YtkkjjogbfjahgaaDoor.PSc
