/- Known blocks in a round of a range over a function; the set of one node, run through. Conditions: those that each theorem states. -/
import Derived.Test.YtkbjlaknhedekaaDoorAu5
import Derived.RangeFuncBound
set_option linter.unusedVariables false
set_option linter.unusedSimpArgs false
/- Known blocks in a round of a range over a function; the set of one node, run through. -/
namespace Go.Proofs.YtkbjlaknhedekaaDoor.Sm
open Go Go.Proofs Go.RowKit Go.Shelf Go.Proofs.BitsPlain Go.Proofs.YtkbjlaknhedekaaDoorW.PrintWords Go.Proofs.YtkbjlaknhedekaaDoorW.PrintLast Go.Proofs.YtkbjlaknhedekaaDoorW.PrintMore Go.Proofs.YtkbjlaknhedekaaDoor.PAuditNames
section
variable {w W W1 : World} {l l1 : Bs} {g k i m : Nat} {cs cs' : Array Value} {t0 : TypeId}
theorem HG.perm {l l' : Bs} (h : HG m w l W) (hp : l.Perm l') : HG m w l' W :=
  ⟨h.below, fun x hx => h.all x (hp.mem_iff.2 hx), (hp.pairwise_iff (fun hab => Ne.symm hab)).1 h.apart, h.le, fun k hk hn => h.kept k hk fun x hx => hn x (hp.mem_iff.1 hx)⟩
theorem HG.cons (h : HG 0 w l W) (hb : W.heap[g]? = some (.cells cs t0 (0, 0))) (hne : ∀ x ∈ l, x.1 ≠ g) : HG 0 w ((g, cs, t0) :: l) W :=
  ⟨h.below, fun x hx => by
    rcases List.mem_cons.1 hx with rfl | hx
    · exact ⟨Nat.zero_le _, hb⟩
    · exact h.all x hx, List.pairwise_cons.2 ⟨fun x hx => Ne.symm (hne x hx), h.apart⟩, Nat.zero_le _, fun k hk hn => h.kept k hk fun x hx => hn x (List.mem_cons_of_mem _ hx)⟩
/-- behind a stretch that began where one had come to -/
theorem HG.comp (h : HG 0 w l W) (h1 : HG 0 W l1 W1) (hs : ∀ x ∈ l, ∃ y ∈ l1, y.1 = x.1) : HG 0 w l1 W1 :=
  ⟨h.below.trans h1.below, h1.all, h1.apart, Nat.zero_le _, fun k hk hn => by
    rw [h1.kept k (Nat.lt_of_lt_of_le hk h.below.size) hn]
    refine h.kept k hk fun x hx he => ?_
    obtain ⟨y, hy, e⟩ := hs x hx
    exact hn y hy (e.trans he)⟩
theorem HG.zero (h : HG m w l W) : HG 0 w l W := ⟨h.below.mono (Nat.zero_le _), fun x hx => ⟨Nat.zero_le _, (h.all x hx).2⟩, h.apart, Nat.zero_le _, h.kept⟩
/-- a call that wrote a block that was not known -/
theorem HG.wrote (h : HG 0 w l W) (hne : ∀ x ∈ l, x.1 ≠ g) (h1 : HG 0 W [(g, cs', t0)] W1) : HG 0 w ((g, cs', t0) :: l) W1 := by
  have hk1 : ∀ j, j < W.heap.size → j ≠ g → W1.heap[j]? = W.heap[j]? := fun j hj hn => h1.kept j hj (fun x hx => by obtain rfl := List.mem_singleton.1 hx; exact fun he => hn he.symm)
  refine ⟨h.below.trans h1.below, fun x hx => ⟨Nat.zero_le _, ?_⟩, List.pairwise_cons.2 ⟨fun x hx => Ne.symm (hne x hx), h.apart⟩, Nat.zero_le _, fun k hk hn => ?_⟩
  · rcases List.mem_cons.1 hx with rfl | hx
    · exact (h1.all _ (List.mem_singleton.2 rfl)).2
    · rw [hk1 _ (h.lt hx) (hne x hx)]; exact (h.all x hx).2
  · rw [hk1 k (Nat.lt_of_lt_of_le hk h.below.size) (fun e => hn _ (List.mem_cons_self ..) e.symm)]
    exact h.kept k hk fun x hx => hn x (List.mem_cons_of_mem _ hx)
theorem HG.keepsFrom {B : Nat} (h : HG 0 W l W1) (hc : ∀ x ∈ l, x.1 < W.heap.size → ∃ o, W.heap[x.1]? = some o ∧ o.isCells = true) : KeepsFrom B W W1 :=
  ⟨h.below.size, fun k o _ hk ho => by
    have hlt := (Array.getElem?_eq_some_iff.1 hk).1
    rw [h.kept k hlt fun x hx he => ?_]
    · exact hk
    · obtain ⟨o', h1, h2⟩ := hc x hx (by omega)
      rw [he, hk] at h1
      obtain rfl := Option.some.inj h1
      rw [ho] at h2; cases h2⟩
theorem HG.keepsVia {B : Nat} (h : HG 0 W l1 W1) (h0 : HG m w l W) (hs : ∀ x ∈ l1, x.1 < W.heap.size → ∃ y ∈ l, y.1 = x.1) : KeepsFrom B W W1 :=
  h.keepsFrom fun x hx hlt => by
    obtain ⟨y, hy, e⟩ := hs x hx hlt
    exact ⟨_, e ▸ (h0.all y hy).2, rfl⟩
theorem HG.belowN {n : Nat} (h : HG 0 W l W1) (hn : ∀ x ∈ l, n ≤ x.1) (hle : n ≤ W.heap.size) : Below n W W1 :=
  ⟨h.below.os, h.below.tape, h.below.output, h.below.size, fun k hk => h.kept k (by omega) fun x hx => by have := hn x hx; omega⟩
theorem HG.ownFrom {B : Nat} {row : Option Nat} (h : HG 0 w l W) (hB : w.heap.size ≤ B) (hg : W.grownBy W1 row) (hr : ∀ r, row = some r → B ≤ r ∧ ∃ o : Obj, W.heap[r]? = some o ∧ o.isCells = false) : HG 0 w l W1 :=
  ⟨h.below.trans ⟨hg.os, hg.tape, hg.output, hg.size, fun k hk => absurd hk (Nat.not_lt_zero _)⟩, fun x hx => ⟨Nat.zero_le _, by
    have hb := (h.all x hx).2
    rw [hg.block x.1 (blk_lt hb) fun e => ?_]
    · exact hb
    · obtain ⟨_, o, h1, h2⟩ := hr x.1 e.symm
      rw [hb] at h1
      obtain rfl := Option.some.inj h1
      cases h2⟩, h.apart, Nat.zero_le _, fun k hk hn => by
    rw [hg.block k (Nat.lt_of_lt_of_le hk h.below.size) fun e => ?_]
    · exact h.kept k hk hn
    · have := (hr k e.symm).1; omega⟩
end
theorem lows8 : lows 8 = [3] := by decide +kernel
theorem of_calls' {m : Nat} {g : FuncId} {args : Array Value} {w : World} {R : Ending → World → Prop} (h : Calls Tryd.prog g args w R) : CallsIn Fence.wide m Tryd.prog g args w R := callsIn_wide.2 h
/-- the one node of the set 8, run through -/
theorem one_stops (n : Nat) (hn : 1 ≤ n) (Bn n₀ : Nat) (w : World) (hBn : Bn < w.heap.size) (hn₀ : n₀ ≤ w.heap.size) (h1 : 0 < n₀)
    (hc : w.cell? ⟨Bn, 0, none⟩ = some (.int .u64 8)) (hT : Tab w) :
    SeqStopsK Fence.wide n Tryd.prog 30 #[.pointer (some ⟨Bn, 0, none⟩)] (fun _ : Unit => #[Value.int .i64 3]) (Below n₀) (fun ys => ys = [()]) (fun pre => True) 1 w := fun l J Jx W hW _ _ hY h0 => by
  refine (all1_in Fence.wide n trivial trivial rfl (fun _ _ _ _ h => of_calls' h) hn l Bn n₀ 8 (by omega) h1 (fun pre W => (pre = [] ∧ J [] W) ∨ (pre = [3] ∧ J [()] W)) (fun _ W => Jx [()] W) ?_ W ((hW.cell (p := ⟨Bn, 0, none⟩) hBn).trans hc) (hT.below (by omega) hW) (.inl ⟨rfl, h0⟩)).mono ?_
  · intro pre x W1 hJ hp
    rw [lows8] at hp
    obtain ⟨r, hp⟩ := hp
    have hpre : pre = [] ∧ x = 3 := by
      match pre, hp with
      | [], hp => simp at hp; exact ⟨rfl, hp.1⟩
      | a :: b, hp => simp at hp
    obtain ⟨rfl, rfl⟩ := hpre
    rcases hJ with ⟨_, hJ⟩ | ⟨h, _⟩
    · refine YieldAt.mono (hY [] () W1 hJ (by simp)) ?_
      rintro e W' (⟨rfl, h2, h3⟩ | ⟨rfl, h2⟩)
      · exact .inl ⟨rfl, .inr ⟨rfl, h2⟩, h3⟩
      · exact .inr ⟨rfl, h2⟩
    · cases h
  · rintro e W' ⟨hv, ⟨ys, rfl, hJ⟩ | ⟨pre, _, hJ⟩⟩
    · rw [lows8] at hJ
      rcases hJ with ⟨h, _⟩ | ⟨_, hJ⟩
      · cases h
      · exact ⟨hv, .inl ⟨_, rfl, hJ⟩⟩
    · exact ⟨hv, .inr ⟨_, trivial, hJ⟩⟩
end Go.Proofs.YtkbjlaknhedekaaDoor.Sm
