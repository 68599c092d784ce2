/- A part of the proofs over script (ScSteps): contracts of the program's functions and plain laws. Conditions: those that each theorem states. -/
import Derived.Test.YtkkjjogbfjahgaaDoorScBack
import Derived.Test.YtkkjjogbfjahgaaDoorScClean
set_option linter.unusedVariables false
set_option linter.unusedSimpArgs false
/- Steps in plain words: clean ones, right ones, their bytes; read again. -/
namespace Go.Proofs.YtkkjjogbfjahgaaDoor.Sc
open Go Go.Proofs Go.RowKit Go.Proofs.CodBytes Go.Proofs.YtkkjjogbfjahgaaDoorW.PrintWords Go.Proofs.YtkkjjogbfjahgaaDoorW.PrintLast Go.Proofs.YtkkjjogbfjahgaaDoorW.PrintMore Go.Proofs.YtkkjjogbfjahgaaDoor.PSc Go.Proofs.YtkkjjogbfjahgaaDoor.CodSame Go.Proofs.YtkkjjogbfjahgaaDoor.Cur

def toS (x : S42) : Int × Int × Int × Int × Int × Int × Int × Int × Int × Int × Int × Int × Bool × ByteArray × Int × Int × Int × Int × Int := (x.f0, x.f1.f0, x.f1.f1, x.f1.f2, x.f1.f3, x.f1.f4, x.f1.f5, x.f1.f6, x.f1.f7, x.f1.f8, x.f1.f9, x.f1.f10, x.f1.f11, x.f2, x.f3, x.f4.f0, x.f4.f1, x.f4.f2, x.f4.f3)
def noS : ByteArray := ⟨#[]⟩
def cleanS (x : S42) : S42 :=
 if x.f0 = 0 then ⟨x.f0, cleanC x.f1, noS, 0, z40⟩ else
 if x.f0 = 1 then ⟨x.f0, z39, x.f2, 0, z40⟩ else
 if x.f0 = 2 then ⟨x.f0, z39, noS, x.f3, z40⟩ else
 if x.f0 = 3 then ⟨x.f0, z39, noS, 0, x.f4⟩ else
 if x.f0 = 4 ∨ x.f0 = 5 then ⟨x.f0, z39, noS, 0, z40⟩ else z42
def rightS (x : S42) : Bool :=
 if x.f0 = 0 then rightC x.f1 else if x.f0 = 1 then decide ((x.f2.size : Int) ≤ 264) else if x.f0 = 2 then true else if x.f0 = 3 then true else if x.f0 = 4 then true else if x.f0 = 5 then true else false
theorem cleanS_f (k : Nat) (x : S42) : script_Step_Clean.f (k + 1) x.f0 x.f1.f0 x.f1.f1 x.f1.f2 x.f1.f3 x.f1.f4 x.f1.f5 x.f1.f6 x.f1.f7 x.f1.f8 x.f1.f9 x.f1.f10 x.f1.f11 x.f2 x.f3 x.f4.f0 x.f4.f1 x.f4.f2 x.f4.f3 = some (toS (cleanS x)) := by
 unfold script_Step_Clean.f cleanS
 by_cases h0 : x.f0 = 0
 ·rw [if_pos h0, if_pos h0, clean_f, Option.bind_some]; rfl
 rw [if_neg h0, if_neg h0]
 by_cases h1 : x.f0 = 1
 ·rw [if_pos h1, if_pos h1]; rfl
 rw [if_neg h1, if_neg h1]
 by_cases h2 : x.f0 = 2
 ·rw [if_pos h2, if_pos h2]; rfl
 rw [if_neg h2, if_neg h2]
 by_cases h3 : x.f0 = 3
 ·rw [if_pos h3, if_pos h3]; rfl
 rw [if_neg h3, if_neg h3]
 by_cases h4 : x.f0 = 4 ∨ x.f0 = 5
 ·rw [if_pos h4, if_pos h4]; rfl
 rw [if_neg h4, if_neg h4]; rfl
theorem rightS_f (k : Nat) (x : S42) : script_Step_Right.f (k + 1) x.f0 x.f1.f0 x.f1.f1 x.f1.f2 x.f1.f3 x.f1.f4 x.f1.f5 x.f1.f6 x.f1.f7 x.f1.f8 x.f1.f9 x.f1.f10 x.f1.f11 x.f2 x.f3 x.f4.f0 x.f4.f1 x.f4.f2 x.f4.f3 = some (rightS x) := by
 unfold script_Step_Right.f rightS
 by_cases h0 : x.f0 = 0
 ·rw [if_pos h0, if_pos h0, right_f, Option.bind_some]
 rw [if_neg h0, if_neg h0]
 repeat' split
 all_goals rfl
/-- a step of those that are read again -/
structure GoodS (x : S42) : Prop where
 i64 : Cmd64 x.f1 ∧ I64 x.f3 ∧ I64 x.f4.f0 ∧ I64 x.f4.f1 ∧ I64 x.f4.f2 ∧ I64 x.f4.f3
 right : rightS x = true
 clean : cleanS x = x
def Step64 (x : S42) : Prop := I64 x.f0 ∧ Cmd64 x.f1 ∧ I64 x.f3 ∧ I64 x.f4.f0 ∧ I64 x.f4.f1 ∧ I64 x.f4.f2 ∧ I64 x.f4.f3
theorem zC64 : Cmd64 z39 := by
 have hz : I64 0 := by unfold I64; omega
 exact ⟨hz, hz, hz, hz, hz, hz, hz, hz, hz, hz, hz⟩
theorem good_of (x : S42) (h : Step64 x) (hr : rightS x = true) : GoodS (cleanS x) := by
 obtain ⟨_, hC, h3, k0, k1, k2, k3⟩ := h
 have hz : I64 0 := by unfold I64; omega
 have hk : x.f0 = 0 ∨ x.f0 = 1 ∨ x.f0 = 2 ∨ x.f0 = 3 ∨ x.f0 = 4 ∨ x.f0 = 5 := by
  unfold rightS at hr
  by_cases e0 : x.f0 = 0; · exact .inl e0
  by_cases e1 : x.f0 = 1; · exact .inr (.inl e1)
  by_cases e2 : x.f0 = 2; · exact .inr (.inr (.inl e2))
  by_cases e3 : x.f0 = 3; · exact .inr (.inr (.inr (.inl e3)))
  by_cases e4 : x.f0 = 4; · exact .inr (.inr (.inr (.inr (.inl e4))))
  by_cases e5 : x.f0 = 5; · exact .inr (.inr (.inr (.inr (.inr e5))))
  rw [if_neg e0, if_neg e1, if_neg e2, if_neg e3, if_neg e4, if_neg e5] at hr
  exact absurd hr (by simp)
 obtain ⟨f0, f1, f2, f3, f4⟩ := x
 dsimp only at hC h3 k0 k1 k2 k3 hk
 rcases hk with rfl | rfl | rfl | rfl | rfl | rfl
 ·exact ⟨⟨hC.clean, hz, hz, hz, hz, hz⟩, (right_clean f1).trans hr, by simp only [cleanS, if_pos]; rw [clean_clean]⟩
 ·exact ⟨⟨zC64, hz, hz, hz, hz, hz⟩, hr, rfl⟩
 ·exact ⟨⟨zC64, h3, hz, hz, hz, hz⟩, hr, rfl⟩
 ·exact ⟨⟨zC64, hz, k0, k1, k2, k3⟩, hr, rfl⟩
 ·exact ⟨⟨zC64, hz, hz, hz, hz, hz⟩, hr, rfl⟩
 ·exact ⟨⟨zC64, hz, hz, hz, hz, hz⟩, hr, rfl⟩
/-- what is laid behind a step's kind -/
def bodyB (x : S42) : List Int :=
 if x.f0 = 0 then textB (layN (numsC (cleanC x.f1))) else if x.f0 = 1 then textB (bytesOf x.f2) else if x.f0 = 2 then bytesI x.f3 else if x.f0 = 3 then layN [x.f4.f0, x.f4.f1, x.f4.f2, x.f4.f3] else []
def stepB (x : S42) : List Int := bytesI x.f0 ++ bodyB x
theorem GoodS.kind {x : S42} (h : GoodS x) : x.f0 = 0 ∨ x.f0 = 1 ∨ x.f0 = 2 ∨ x.f0 = 3 ∨ x.f0 = 4 ∨ x.f0 = 5 := by
 have hr := h.right
 unfold rightS at hr
 by_cases e0 : x.f0 = 0; · exact .inl e0
 by_cases e1 : x.f0 = 1; · exact .inr (.inl e1)
 by_cases e2 : x.f0 = 2; · exact .inr (.inr (.inl e2))
 by_cases e3 : x.f0 = 3; · exact .inr (.inr (.inr (.inl e3)))
 by_cases e4 : x.f0 = 4; · exact .inr (.inr (.inr (.inr (.inl e4))))
 by_cases e5 : x.f0 = 5; · exact .inr (.inr (.inr (.inr (.inr e5))))
 rw [if_neg e0, if_neg e1, if_neg e2, if_neg e3, if_neg e4, if_neg e5] at hr
 exact absurd hr (by simp)
theorem kind_one : ∀ n : Int, (n = 0 ∨ n = 1 ∨ n = 2 ∨ n = 3 ∨ n = 4 ∨ n = 5) → bytesI n = [2 * n] := by
 rintro n (rfl | rfl | rfl | rfl | rfl | rfl) <;> rfl
theorem layN12_len (x : S39) : (layN (numsC x)).length ≤ 120 := layN_len (numsC x)
theorem step_back (x : S42) (h : GoodS x) (t : List Int) : stepF 10 (stepB x ++ t) 0 = some (x, 0, t, 0) := by
 have hk := h.kind
 have hs : smallOf 5 (stepB x ++ t) 0 = (x.f0, bodyB x ++ t, 0) := by
  unfold stepB
  rw [List.append_assoc]
  refine small_back 5 x.f0 ?_ ?_ ?_ _
  ·omega
  ·omega
  ·unfold I64; omega
 have hcl := h.clean
 have hr := h.right
 obtain ⟨hC, h3, k0, k1, k2, k3⟩ := h.i64
 obtain ⟨f0, f1, f2, f3, f4⟩ := x
 dsimp only at hC h3 k0 k1 k2 k3 hk hs
 unfold stepF
 rw [hs]
 dsimp only
 rcases hk with rfl | rfl | rfl | rfl | rfl | rfl
 ·simp only [cleanS, if_pos, S42.mk.injEq, true_and] at hcl
  obtain ⟨c1, rfl, rfl, rfl⟩ := hcl
  have hr1 : rightC f1 = true := hr
  have hb : bodyB ⟨0, f1, noS, 0, z40⟩ = textB (layN (numsC (cleanC f1))) := rfl
  rw [if_pos rfl, hb, c1, text_back _ (by have := layN12_len f1; omega)]
  dsimp only
  rw [cmdRead_back 9 f1 hC c1 hr1]; rfl
 ·have hc2 : (⟨1, z39, f2, 0, z40⟩ : S42) = ⟨1, f1, f2, f3, f4⟩ := hcl
  simp only [S42.mk.injEq, true_and] at hc2
  obtain ⟨rfl, rfl, rfl⟩ := hc2
  have hz : f2.size ≤ 264 := by have : decide ((f2.size : Int) ≤ 264) = true := hr; have := of_decide_eq_true this; omega
  have hb : bodyB ⟨1, z39, f2, 0, z40⟩ = textB (bytesOf f2) := rfl
  rw [if_neg (by decide), if_pos rfl, hb, text_back _ (by rw [bytesOf_length]; omega)]
  dsimp only
  rw [str_bytes]
 ·have hc2 : (⟨2, z39, noS, f3, z40⟩ : S42) = ⟨2, f1, f2, f3, f4⟩ := hcl
  simp only [S42.mk.injEq, true_and] at hc2
  obtain ⟨rfl, rfl, rfl⟩ := hc2
  have hb : bodyB ⟨2, z39, noS, f3, z40⟩ = bytesI f3 := rfl
  rw [if_neg (by decide), if_neg (by decide), if_pos rfl, hb, int_back f3 h3]
  rfl
 ·have hc2 : (⟨3, z39, noS, 0, f4⟩ : S42) = ⟨3, f1, f2, f3, f4⟩ := hcl
  simp only [S42.mk.injEq, true_and] at hc2
  obtain ⟨rfl, rfl, rfl, _⟩ := hc2
  have hb : bodyB ⟨3, z39, noS, 0, f4⟩ = layN [f4.f0, f4.f1, f4.f2, f4.f3] := rfl
  have hi := ints_back [f4.f0, f4.f1, f4.f2, f4.f3] t (by
   intro v hv
   simp only [List.mem_cons, List.not_mem_nil, or_false] at hv
   rcases hv with rfl | rfl | rfl | rfl <;> assumption)
  rw [if_neg (by decide), if_neg (by decide), if_neg (by decide), if_pos rfl, hb]
  simp only [List.length_cons, List.length_nil, Nat.zero_add] at hi
  rw [show (4 : Nat) = 0 + 1 + 1 + 1 + 1 from rfl]
  simp only [Nat.zero_add, hi]
  rfl
 ·have hc2 : (⟨4, z39, noS, 0, z40⟩ : S42) = ⟨4, f1, f2, f3, f4⟩ := hcl
  simp only [S42.mk.injEq, true_and] at hc2
  obtain ⟨rfl, rfl, rfl, rfl⟩ := hc2
  rfl
 ·have hc2 : (⟨5, z39, noS, 0, z40⟩ : S42) = ⟨5, f1, f2, f3, f4⟩ := hcl
  simp only [S42.mk.injEq, true_and] at hc2
  obtain ⟨rfl, rfl, rfl, rfl⟩ := hc2
  rfl
/-- a step that is cut by a byte -/
theorem step_cut (x : S42) (h : GoodS x) (hn : bodyB x ≠ []) : ∃ y ec bs' e', stepF 10 (stepB x).dropLast 0 = some (y, ec, bs', e') ∧ e' ≠ 0 := by
 have hk := h.kind
 have hs : smallOf 5 (stepB x).dropLast 0 = (x.f0, (bodyB x).dropLast, 0) := by
  unfold stepB
  rw [List.dropLast_append_of_ne_nil hn]
  refine small_back 5 x.f0 ?_ ?_ ?_ _
  ·omega
  ·omega
  ·unfold I64; omega
 have hr := h.right
 obtain ⟨hC, h3, k0, k1, k2, k3⟩ := h.i64
 obtain ⟨f0, f1, f2, f3, f4⟩ := x
 dsimp only at hC h3 k0 k1 k2 k3 hk hs
 unfold stepF
 rw [hs]
 dsimp only
 rcases hk with rfl | rfl | rfl | rfl | rfl | rfl
 ·have hb : bodyB ⟨0, f1, f2, f3, f4⟩ = textB (layN (numsC (cleanC f1))) := rfl
  obtain ⟨y, e, hy⟩ := cmdRead_some 9 (textOf (textB (layN (numsC (cleanC f1)))).dropLast 0).1
  rw [if_pos rfl, hb, hy, Option.bind_some]
  exact ⟨_, _, _, _, rfl, text_cut _ (by have := layN12_len (cleanC f1); omega)⟩
 ·have hz : f2.size ≤ 264 := by have : decide ((f2.size : Int) ≤ 264) = true := hr; have := of_decide_eq_true this; omega
  have hb : bodyB ⟨1, f1, f2, f3, f4⟩ = textB (bytesOf f2) := rfl
  rw [if_neg (by decide), if_pos rfl, hb]
  exact ⟨_, _, _, _, rfl, text_cut _ (by rw [bytesOf_length]; omega)⟩
 ·have hb : bodyB ⟨2, f1, f2, f3, f4⟩ = bytesI f3 := rfl
  rw [if_neg (by decide), if_neg (by decide), if_pos rfl, hb]
  exact ⟨_, _, _, _, rfl, int_droplast f3⟩
 ·have hb : bodyB ⟨3, f1, f2, f3, f4⟩ = layN [f4.f0, f4.f1, f4.f2, f4.f3] := rfl
  rw [if_neg (by decide), if_neg (by decide), if_neg (by decide), if_pos rfl, hb]
  exact ⟨_, _, _, _, rfl, ints_cut [f4.f0, f4.f1, f4.f2, f4.f3] (by simp) (by
   intro v hv
   simp only [List.mem_cons, List.not_mem_nil, or_false] at hv
   rcases hv with rfl | rfl | rfl | rfl <;> assumption)⟩
 ·exact absurd rfl hn
 ·exact absurd rfl hn
end Go.Proofs.YtkkjjogbfjahgaaDoor.Sc

set_option linter.unusedVariables false
set_option linter.unusedSimpArgs false
/- What is laid of steps; read again; cut by a byte. -/
namespace Go.Proofs.YtkkjjogbfjahgaaDoor.Sc
open Go Go.Proofs Go.RowKit Go.Proofs.CodBytes Go.Proofs.YtkkjjogbfjahgaaDoorW.PrintWords Go.Proofs.YtkkjjogbfjahgaaDoorW.PrintLast Go.Proofs.YtkkjjogbfjahgaaDoorW.PrintMore Go.Proofs.YtkkjjogbfjahgaaDoor.PSc Go.Proofs.YtkkjjogbfjahgaaDoor.CodSame Go.Proofs.YtkkjjogbfjahgaaDoor.Cur

theorem cmd_Put_0 (k : Nat) (pre : List Int) (v0 v1 v2 v3 v4 v5 v6 v7 v8 v9 v10 v11 : Int) (h : I64 v0) (hk : 10 ≤ k) (hp : pre.length + 10 < 140737488355328) : cmd_Put.l0 (k + 1) pre 0 v0 v1 v2 v3 v4 v5 v6 v7 v8 v9 v10 v11 = cmd_Put.l0 k (pre ++ bytesI v0) 1 v0 v1 v2 v3 v4 v5 v6 v7 v8 v9 v10 v11 := by
 rw [cmd_Put.l0, if_pos (by decide), if_pos rfl, putInt_f k pre v0 h hk hp, Option.bind_some, show wrap64 ((0 : Int) + 1) = 1 by unfold wrap64; omega]
theorem cmd_Put_1 (k : Nat) (pre : List Int) (v0 v1 v2 v3 v4 v5 v6 v7 v8 v9 v10 v11 : Int) (h : I64 v1) (hk : 10 ≤ k) (hp : pre.length + 10 < 140737488355328) : cmd_Put.l0 (k + 1) pre 1 v0 v1 v2 v3 v4 v5 v6 v7 v8 v9 v10 v11 = cmd_Put.l0 k (pre ++ bytesI v1) 2 v0 v1 v2 v3 v4 v5 v6 v7 v8 v9 v10 v11 := by
 rw [cmd_Put.l0, if_pos (by decide), if_neg (by decide), if_pos rfl, putInt_f k pre v1 h hk hp, Option.bind_some, show wrap64 ((1 : Int) + 1) = 2 by unfold wrap64; omega]
theorem cmd_Put_2 (k : Nat) (pre : List Int) (v0 v1 v2 v3 v4 v5 v6 v7 v8 v9 v10 v11 : Int) (h : I64 v2) (hk : 10 ≤ k) (hp : pre.length + 10 < 140737488355328) : cmd_Put.l0 (k + 1) pre 2 v0 v1 v2 v3 v4 v5 v6 v7 v8 v9 v10 v11 = cmd_Put.l0 k (pre ++ bytesI v2) 3 v0 v1 v2 v3 v4 v5 v6 v7 v8 v9 v10 v11 := by
 rw [cmd_Put.l0, if_pos (by decide), if_neg (by decide), if_neg (by decide), if_pos rfl, putInt_f k pre v2 h hk hp, Option.bind_some, show wrap64 ((2 : Int) + 1) = 3 by unfold wrap64; omega]
theorem cmd_Put_3 (k : Nat) (pre : List Int) (v0 v1 v2 v3 v4 v5 v6 v7 v8 v9 v10 v11 : Int) (h : I64 v3) (hk : 10 ≤ k) (hp : pre.length + 10 < 140737488355328) : cmd_Put.l0 (k + 1) pre 3 v0 v1 v2 v3 v4 v5 v6 v7 v8 v9 v10 v11 = cmd_Put.l0 k (pre ++ bytesI v3) 4 v0 v1 v2 v3 v4 v5 v6 v7 v8 v9 v10 v11 := by
 rw [cmd_Put.l0, if_pos (by decide), if_neg (by decide), if_neg (by decide), if_neg (by decide), if_pos rfl, putInt_f k pre v3 h hk hp, Option.bind_some, show wrap64 ((3 : Int) + 1) = 4 by unfold wrap64; omega]
theorem cmd_Put_4 (k : Nat) (pre : List Int) (v0 v1 v2 v3 v4 v5 v6 v7 v8 v9 v10 v11 : Int) (h : I64 v4) (hk : 10 ≤ k) (hp : pre.length + 10 < 140737488355328) : cmd_Put.l0 (k + 1) pre 4 v0 v1 v2 v3 v4 v5 v6 v7 v8 v9 v10 v11 = cmd_Put.l0 k (pre ++ bytesI v4) 5 v0 v1 v2 v3 v4 v5 v6 v7 v8 v9 v10 v11 := by
 rw [cmd_Put.l0, if_pos (by decide), if_neg (by decide), if_neg (by decide), if_neg (by decide), if_neg (by decide), if_pos rfl, putInt_f k pre v4 h hk hp, Option.bind_some, show wrap64 ((4 : Int) + 1) = 5 by unfold wrap64; omega]
theorem cmd_Put_5 (k : Nat) (pre : List Int) (v0 v1 v2 v3 v4 v5 v6 v7 v8 v9 v10 v11 : Int) (h : I64 v5) (hk : 10 ≤ k) (hp : pre.length + 10 < 140737488355328) : cmd_Put.l0 (k + 1) pre 5 v0 v1 v2 v3 v4 v5 v6 v7 v8 v9 v10 v11 = cmd_Put.l0 k (pre ++ bytesI v5) 6 v0 v1 v2 v3 v4 v5 v6 v7 v8 v9 v10 v11 := by
 rw [cmd_Put.l0, if_pos (by decide), if_neg (by decide), if_neg (by decide), if_neg (by decide), if_neg (by decide), if_neg (by decide), if_pos rfl, putInt_f k pre v5 h hk hp, Option.bind_some, show wrap64 ((5 : Int) + 1) = 6 by unfold wrap64; omega]
theorem cmd_Put_6 (k : Nat) (pre : List Int) (v0 v1 v2 v3 v4 v5 v6 v7 v8 v9 v10 v11 : Int) (h : I64 v6) (hk : 10 ≤ k) (hp : pre.length + 10 < 140737488355328) : cmd_Put.l0 (k + 1) pre 6 v0 v1 v2 v3 v4 v5 v6 v7 v8 v9 v10 v11 = cmd_Put.l0 k (pre ++ bytesI v6) 7 v0 v1 v2 v3 v4 v5 v6 v7 v8 v9 v10 v11 := by
 rw [cmd_Put.l0, if_pos (by decide), if_neg (by decide), if_neg (by decide), if_neg (by decide), if_neg (by decide), if_neg (by decide), if_neg (by decide), if_pos rfl, putInt_f k pre v6 h hk hp, Option.bind_some, show wrap64 ((6 : Int) + 1) = 7 by unfold wrap64; omega]
theorem cmd_Put_7 (k : Nat) (pre : List Int) (v0 v1 v2 v3 v4 v5 v6 v7 v8 v9 v10 v11 : Int) (h : I64 v7) (hk : 10 ≤ k) (hp : pre.length + 10 < 140737488355328) : cmd_Put.l0 (k + 1) pre 7 v0 v1 v2 v3 v4 v5 v6 v7 v8 v9 v10 v11 = cmd_Put.l0 k (pre ++ bytesI v7) 8 v0 v1 v2 v3 v4 v5 v6 v7 v8 v9 v10 v11 := by
 rw [cmd_Put.l0, if_pos (by decide), if_neg (by decide), if_neg (by decide), if_neg (by decide), if_neg (by decide), if_neg (by decide), if_neg (by decide), if_neg (by decide), if_pos rfl, putInt_f k pre v7 h hk hp, Option.bind_some, show wrap64 ((7 : Int) + 1) = 8 by unfold wrap64; omega]
theorem cmd_Put_8 (k : Nat) (pre : List Int) (v0 v1 v2 v3 v4 v5 v6 v7 v8 v9 v10 v11 : Int) (h : I64 v8) (hk : 10 ≤ k) (hp : pre.length + 10 < 140737488355328) : cmd_Put.l0 (k + 1) pre 8 v0 v1 v2 v3 v4 v5 v6 v7 v8 v9 v10 v11 = cmd_Put.l0 k (pre ++ bytesI v8) 9 v0 v1 v2 v3 v4 v5 v6 v7 v8 v9 v10 v11 := by
 rw [cmd_Put.l0, if_pos (by decide), if_neg (by decide), if_neg (by decide), if_neg (by decide), if_neg (by decide), if_neg (by decide), if_neg (by decide), if_neg (by decide), if_neg (by decide), if_pos rfl, putInt_f k pre v8 h hk hp, Option.bind_some, show wrap64 ((8 : Int) + 1) = 9 by unfold wrap64; omega]
theorem cmd_Put_9 (k : Nat) (pre : List Int) (v0 v1 v2 v3 v4 v5 v6 v7 v8 v9 v10 v11 : Int) (h : I64 v9) (hk : 10 ≤ k) (hp : pre.length + 10 < 140737488355328) : cmd_Put.l0 (k + 1) pre 9 v0 v1 v2 v3 v4 v5 v6 v7 v8 v9 v10 v11 = cmd_Put.l0 k (pre ++ bytesI v9) 10 v0 v1 v2 v3 v4 v5 v6 v7 v8 v9 v10 v11 := by
 rw [cmd_Put.l0, if_pos (by decide), if_neg (by decide), if_neg (by decide), if_neg (by decide), if_neg (by decide), if_neg (by decide), if_neg (by decide), if_neg (by decide), if_neg (by decide), if_neg (by decide), if_pos rfl, putInt_f k pre v9 h hk hp, Option.bind_some, show wrap64 ((9 : Int) + 1) = 10 by unfold wrap64; omega]
theorem cmd_Put_10 (k : Nat) (pre : List Int) (v0 v1 v2 v3 v4 v5 v6 v7 v8 v9 v10 v11 : Int) (h : I64 v10) (hk : 10 ≤ k) (hp : pre.length + 10 < 140737488355328) : cmd_Put.l0 (k + 1) pre 10 v0 v1 v2 v3 v4 v5 v6 v7 v8 v9 v10 v11 = cmd_Put.l0 k (pre ++ bytesI v10) 11 v0 v1 v2 v3 v4 v5 v6 v7 v8 v9 v10 v11 := by
 rw [cmd_Put.l0, if_pos (by decide), if_neg (by decide), if_neg (by decide), if_neg (by decide), if_neg (by decide), if_neg (by decide), if_neg (by decide), if_neg (by decide), if_neg (by decide), if_neg (by decide), if_neg (by decide), if_pos rfl, putInt_f k pre v10 h hk hp, Option.bind_some, show wrap64 ((10 : Int) + 1) = 11 by unfold wrap64; omega]
theorem cmd_Put_11 (k : Nat) (pre : List Int) (v0 v1 v2 v3 v4 v5 v6 v7 v8 v9 v10 v11 : Int) (h : I64 v11) (hk : 10 ≤ k) (hp : pre.length + 10 < 140737488355328) : cmd_Put.l0 (k + 1) pre 11 v0 v1 v2 v3 v4 v5 v6 v7 v8 v9 v10 v11 = cmd_Put.l0 k (pre ++ bytesI v11) 12 v0 v1 v2 v3 v4 v5 v6 v7 v8 v9 v10 v11 := by
 rw [cmd_Put.l0, if_pos (by decide), if_neg (by decide), if_neg (by decide), if_neg (by decide), if_neg (by decide), if_neg (by decide), if_neg (by decide), if_neg (by decide), if_neg (by decide), if_neg (by decide), if_neg (by decide), if_neg (by decide), if_pos rfl, putInt_f k pre v11 h hk hp, Option.bind_some, show wrap64 ((11 : Int) + 1) = 12 by unfold wrap64; omega]
theorem cput_f (k : Nat) (hk : 40 ≤ k) (x : S39) (h : Cmd64 (cleanC x)) : cmd_Put.f k x.f0 x.f1 x.f2 x.f3 x.f4 x.f5 x.f6 x.f7 x.f8 x.f9 x.f10 x.f11 = some (layN (numsC (cleanC x))) := by
 obtain ⟨k, rfl⟩ : ∃ m, k = m + 13 := ⟨k - 13, by omega⟩
 have hn := h.nums
 unfold cmd_Put.f
 rw [clean_f, Option.bind_some]
 simp only [toT]
 rw [numbers_f, Option.bind_some]
 unfold numsC at hn ⊢
 generalize cleanC x = y at hn
 simp only
 have hb := bytesI_length
 have g0 := hb y.f0
 have g1 := hb y.f1
 have g2 := hb y.f2
 have g3 := hb y.f3
 have g4 := hb y.f4
 have g5 := hb y.f5
 have g6 := hb y.f6
 have g7 := hb y.f7
 have g8 := hb y.f8
 have g9 := hb y.f9
 have g10 := hb y.f10
 have g11 := hb (flagI y.f11)
 simp only [List.mem_cons, List.not_mem_nil, or_false] at hn
 rw [cmd_Put_0 (k + 12) _ y.f0 y.f1 y.f2 y.f3 y.f4 y.f5 y.f6 y.f7 y.f8 y.f9 y.f10 (flagI y.f11) (hn _ (by simp)) (by omega) (by simp only [List.length_append, List.length_nil]; omega)]
 rw [cmd_Put_1 (k + 11) _ y.f0 y.f1 y.f2 y.f3 y.f4 y.f5 y.f6 y.f7 y.f8 y.f9 y.f10 (flagI y.f11) (hn _ (by simp)) (by omega) (by simp only [List.length_append, List.length_nil]; omega)]
 rw [cmd_Put_2 (k + 10) _ y.f0 y.f1 y.f2 y.f3 y.f4 y.f5 y.f6 y.f7 y.f8 y.f9 y.f10 (flagI y.f11) (hn _ (by simp)) (by omega) (by simp only [List.length_append, List.length_nil]; omega)]
 rw [cmd_Put_3 (k + 9) _ y.f0 y.f1 y.f2 y.f3 y.f4 y.f5 y.f6 y.f7 y.f8 y.f9 y.f10 (flagI y.f11) (hn _ (by simp)) (by omega) (by simp only [List.length_append, List.length_nil]; omega)]
 rw [cmd_Put_4 (k + 8) _ y.f0 y.f1 y.f2 y.f3 y.f4 y.f5 y.f6 y.f7 y.f8 y.f9 y.f10 (flagI y.f11) (hn _ (by simp)) (by omega) (by simp only [List.length_append, List.length_nil]; omega)]
 rw [cmd_Put_5 (k + 7) _ y.f0 y.f1 y.f2 y.f3 y.f4 y.f5 y.f6 y.f7 y.f8 y.f9 y.f10 (flagI y.f11) (hn _ (by simp)) (by omega) (by simp only [List.length_append, List.length_nil]; omega)]
 rw [cmd_Put_6 (k + 6) _ y.f0 y.f1 y.f2 y.f3 y.f4 y.f5 y.f6 y.f7 y.f8 y.f9 y.f10 (flagI y.f11) (hn _ (by simp)) (by omega) (by simp only [List.length_append, List.length_nil]; omega)]
 rw [cmd_Put_7 (k + 5) _ y.f0 y.f1 y.f2 y.f3 y.f4 y.f5 y.f6 y.f7 y.f8 y.f9 y.f10 (flagI y.f11) (hn _ (by simp)) (by omega) (by simp only [List.length_append, List.length_nil]; omega)]
 rw [cmd_Put_8 (k + 4) _ y.f0 y.f1 y.f2 y.f3 y.f4 y.f5 y.f6 y.f7 y.f8 y.f9 y.f10 (flagI y.f11) (hn _ (by simp)) (by omega) (by simp only [List.length_append, List.length_nil]; omega)]
 rw [cmd_Put_9 (k + 3) _ y.f0 y.f1 y.f2 y.f3 y.f4 y.f5 y.f6 y.f7 y.f8 y.f9 y.f10 (flagI y.f11) (hn _ (by simp)) (by omega) (by simp only [List.length_append, List.length_nil]; omega)]
 rw [cmd_Put_10 (k + 2) _ y.f0 y.f1 y.f2 y.f3 y.f4 y.f5 y.f6 y.f7 y.f8 y.f9 y.f10 (flagI y.f11) (hn _ (by simp)) (by omega) (by simp only [List.length_append, List.length_nil]; omega)]
 rw [cmd_Put_11 (k + 1) _ y.f0 y.f1 y.f2 y.f3 y.f4 y.f5 y.f6 y.f7 y.f8 y.f9 y.f10 (flagI y.f11) (hn _ (by simp)) (by omega) (by simp only [List.length_append, List.length_nil]; omega)]
 rw [cmd_Put.l0, if_neg (by decide)]
 simp only [layN, List.flatMap_cons, List.flatMap_nil, List.append_assoc, List.nil_append, List.append_nil]
theorem script_put_0 (k : Nat) (pre : List Int) (v0 v1 v2 v3 : Int) (h : I64 v0) (hk : 10 ≤ k) (hp : pre.length + 10 < 140737488355328) : script_put.l0 (k + 1) pre 0 v0 v1 v2 v3 = script_put.l0 k (pre ++ bytesI v0) 1 v0 v1 v2 v3 := by
 rw [script_put.l0, if_pos (by decide), if_pos rfl, putInt_f k pre v0 h hk hp, Option.bind_some, show wrap64 ((0 : Int) + 1) = 1 by unfold wrap64; omega]
theorem script_put_1 (k : Nat) (pre : List Int) (v0 v1 v2 v3 : Int) (h : I64 v1) (hk : 10 ≤ k) (hp : pre.length + 10 < 140737488355328) : script_put.l0 (k + 1) pre 1 v0 v1 v2 v3 = script_put.l0 k (pre ++ bytesI v1) 2 v0 v1 v2 v3 := by
 rw [script_put.l0, if_pos (by decide), if_neg (by decide), if_pos rfl, putInt_f k pre v1 h hk hp, Option.bind_some, show wrap64 ((1 : Int) + 1) = 2 by unfold wrap64; omega]
theorem script_put_2 (k : Nat) (pre : List Int) (v0 v1 v2 v3 : Int) (h : I64 v2) (hk : 10 ≤ k) (hp : pre.length + 10 < 140737488355328) : script_put.l0 (k + 1) pre 2 v0 v1 v2 v3 = script_put.l0 k (pre ++ bytesI v2) 3 v0 v1 v2 v3 := by
 rw [script_put.l0, if_pos (by decide), if_neg (by decide), if_neg (by decide), if_pos rfl, putInt_f k pre v2 h hk hp, Option.bind_some, show wrap64 ((2 : Int) + 1) = 3 by unfold wrap64; omega]
theorem script_put_3 (k : Nat) (pre : List Int) (v0 v1 v2 v3 : Int) (h : I64 v3) (hk : 10 ≤ k) (hp : pre.length + 10 < 140737488355328) : script_put.l0 (k + 1) pre 3 v0 v1 v2 v3 = script_put.l0 k (pre ++ bytesI v3) 4 v0 v1 v2 v3 := by
 rw [script_put.l0, if_pos (by decide), if_neg (by decide), if_neg (by decide), if_neg (by decide), if_pos rfl, putInt_f k pre v3 h hk hp, Option.bind_some, show wrap64 ((3 : Int) + 1) = 4 by unfold wrap64; omega]
theorem stepB_len (x : S42) (hk : (x.f2.size : Int) ≤ 264) : (stepB x).length ≤ 300 := by
 unfold stepB bodyB textB
 have h0 := bytesI_length x.f0
 have h1 := layN12_len (cleanC x.f1)
 have h2 := bytesI_length ((layN (numsC (cleanC x.f1))).length : Int)
 have h3 := bytesI_length ((bytesOf x.f2).length : Int)
 have h4 := bytesI_length x.f3
 have h5 : (layN [x.f4.f0, x.f4.f1, x.f4.f2, x.f4.f3]).length ≤ 40 := layN_len _
 have h6 := bytesOf_length x.f2
 rw [List.length_append]
 repeat' split
 all_goals (try rw [List.length_append])
 all_goals (try simp only [List.length_nil])
 all_goals omega
theorem GoodS.size {x : S42} (h : GoodS x) : (x.f2.size : Int) ≤ 264 := by
 have hk := h.kind
 have hc := h.clean
 have hr := h.right
 by_cases h1 : x.f0 = 1
 ·unfold rightS at hr
  rw [if_neg (by omega), if_pos h1] at hr
  exact of_decide_eq_true hr
 ·have : x.f2 = noS := by
   rw [← hc]
   unfold cleanS
   rcases hk with e | e | e | e | e | e <;> simp [e] at h1 ⊢
  rw [this]; decide
theorem stepB_bytes (x : S42) (h : GoodS x) : ∀ v ∈ stepB x, 0 ≤ v ∧ v < 256 := by
 have hk := h.kind
 obtain ⟨hC, h3, k0, k1, k2, k3⟩ := h.i64
 have hs := h.size
 have h12 := layN12_len (cleanC x.f1)
 have ht : ∀ bs : List Int, (∀ v ∈ bs, 0 ≤ v ∧ v < 256) → bs.length ≤ 65536 → ∀ v ∈ textB bs, 0 ≤ v ∧ v < 256 := by
  intro bs hb hl v hv
  rcases List.mem_append.1 hv with hv | hv
  ·exact bytesI_bytes _ (by unfold I64; omega) v hv
  ·exact hb v hv
 intro v hv
 rcases List.mem_append.1 hv with hv | hv
 ·exact bytesI_bytes _ (by unfold I64; omega) v hv
 ·unfold bodyB at hv
  split at hv
  ·exact ht _ (layN_bytes _ hC.clean.nums) (by omega) v hv
  split at hv
  ·exact ht _ (bytesOf_in _) (by rw [bytesOf_length]; omega) v hv
  split at hv
  ·exact bytesI_bytes _ h3 v hv
  split at hv
  ·refine layN_bytes _ ?_ v hv
   intro u hu
   simp only [List.mem_cons, List.not_mem_nil, or_false] at hu
   rcases hu with rfl | rfl | rfl | rfl <;> assumption
  ·cases hv
theorem sput_f (k : Nat) (hk : 60 ≤ k) (pre : List Int) (hp : pre.length < 1000000) (x : S42) (h : GoodS x) : script_put.f k pre x.f0 x.f1.f0 x.f1.f1 x.f1.f2 x.f1.f3 x.f1.f4 x.f1.f5 x.f1.f6 x.f1.f7 x.f1.f8 x.f1.f9 x.f1.f10 x.f1.f11 x.f2 x.f3 x.f4.f0 x.f4.f1 x.f4.f2 x.f4.f3 = some (pre ++ stepB x) := by
 have hkd := h.kind
 have hs := h.size
 obtain ⟨hC, h3, k0, k1, k2, k3⟩ := h.i64
 have h0 : I64 x.f0 := by unfold I64; omega
 have hl := bytesI_length x.f0
 have h12 := layN12_len (cleanC x.f1)
 unfold script_put.f stepB bodyB
 rw [putInt_f k pre x.f0 h0 (by omega) (by omega), Option.bind_some]
 have hP : (pre ++ bytesI x.f0).length ≤ 1000010 := by rw [List.length_append]; omega
 rw [← List.append_assoc]
 generalize pre ++ bytesI x.f0 = P at hP
 by_cases e0 : x.f0 = 0
 ·rw [if_pos e0, if_pos e0, cput_f k (by omega) x.f1 hC.clean, Option.bind_some, putText_f k P _ (by omega) (by rw [size_str]; omega) (by omega), Option.bind_some, bytes_str _ (layN_bytes _ hC.clean.nums)]
 rw [if_neg e0, if_neg e0]
 by_cases e1 : x.f0 = 1
 ·rw [if_pos e1, if_pos e1, putText_f k P _ (by omega) (by omega) (by omega), Option.bind_some]
 rw [if_neg e1, if_neg e1]
 by_cases e2 : x.f0 = 2
 ·rw [if_pos e2, if_pos e2, putInt_f k P x.f3 h3 (by omega) (by omega), Option.bind_some]
 rw [if_neg e2, if_neg e2]
 by_cases e3 : x.f0 = 3
 ·rw [if_pos e3, if_pos e3]
  obtain ⟨k, rfl⟩ : ∃ m, k = m + 5 := ⟨k - 5, by omega⟩
  have g0 := bytesI_length x.f4.f0
  have g1 := bytesI_length x.f4.f1
  have g2 := bytesI_length x.f4.f2
  rw [script_put_0 (k + 4) _ _ _ _ _ k0 (by omega) (by omega), script_put_1 (k + 3) _ _ _ _ _ k1 (by omega) (by rw [List.length_append]; omega), script_put_2 (k + 2) _ _ _ _ _ k2 (by omega) (by rw [List.length_append, List.length_append]; omega),
   script_put_3 (k + 1) _ _ _ _ _ k3 (by omega) (by rw [List.length_append, List.length_append, List.length_append]; omega), script_put.l0, if_neg (by decide)]
  simp only [layN, List.flatMap_cons, List.flatMap_nil, List.append_assoc, List.append_nil]
 rw [if_neg e3, if_neg e3, List.append_nil]
def flat (l : List S42) : List Int := l.flatMap stepB
theorem flat_cons (x : S42) (r : List S42) : flat (x :: r) = stepB x ++ flat r := rfl
theorem flat_append (a b : List S42) : flat (a ++ b) = flat a ++ flat b := by unfold flat; rw [List.flatMap_append]
theorem stepB_ne (x : S42) : 1 ≤ (stepB x).length := by
 unfold stepB
 have := bytesI_pos x.f0
 rw [List.length_append]; omega
theorem flat_len : ∀ (l : List S42), (∀ x ∈ l, GoodS x) → (flat l).length ≤ 300 * l.length ∧ l.length ≤ (flat l).length
 | [], _ => ⟨Nat.le_refl _, Nat.le_refl _⟩
 | x :: r, h => by
  have h1 := stepB_len x (h x (List.mem_cons_self ..)).size
  have h2 := stepB_ne x
  have := flat_len r (fun y hy => h y (List.mem_cons_of_mem _ hy))
  rw [flat_cons, List.length_append, List.length_cons]; omega
theorem flat_bytes (l : List S42) (h : ∀ x ∈ l, GoodS x) : ∀ v ∈ flat l, 0 ≤ v ∧ v < 256 := by
 intro v hv
 obtain ⟨x, hx, hv⟩ := List.mem_flatMap.1 hv
 exact stepB_bytes x (h x hx) v hv
theorem rd42 (l : List S42) (i : Nat) (hi : i < l.length) : rd_T42 l (i : Int) = l[i] := by unfold rd_T42; simp [List.getD_eq_getElem?_getD, List.getElem?_eq_getElem hi]
theorem wrap_nat (i : Nat) (hi : i < 4611686018427387904) : wrap64 ((i : Int) + 1) = ((i + 1 : Nat) : Int) := by unfold wrap64; omega
theorem put_l (l : List S42) (hn : l.length < 1000) (h : ∀ x ∈ l, GoodS x) : ∀ (d i k : Nat) (pre : List Int), i + d = l.length → d + 70 ≤ k → pre.length + 300 * d < 900000 →
  script_Put.l0 k pre l (l.length : Int) (i : Int) = some (pre ++ flat (l.drop i))
 | 0, i, k, pre, hi, hk, hp => by
  obtain ⟨k, rfl⟩ : ∃ m, k = m + 1 := ⟨k - 1, by omega⟩
  rw [script_Put.l0, if_neg (by omega), List.drop_eq_nil_of_le (by omega)]
  exact congrArg some (List.append_nil _).symm
 | d + 1, i, k, pre, hi, hk, hp => by
  obtain ⟨k, rfl⟩ : ∃ m, k = m + 1 := ⟨k - 1, by omega⟩
  have hil : i < l.length := by omega
  have hx := h l[i] (List.getElem_mem hil)
  have hlen := stepB_len l[i] hx.size
  obtain ⟨m, rfl⟩ : ∃ m, k = m + 1 := ⟨k - 1, by omega⟩
  rw [script_Put.l0, if_pos (by omega), if_pos (by omega), if_pos (by omega), rd42 l i hil, rightS_f m l[i], Option.bind_some, if_pos hx.right, sput_f (m + 1) (by omega) pre (by omega) l[i] hx, Option.bind_some, wrap_nat i (by omega),
   put_l l hn h d (i + 1) (m + 1) _ (by omega) (by omega) (by rw [List.length_append]; omega), List.drop_eq_getElem_cons hil, flat_cons, List.append_assoc]
theorem put_f' (l : List S42) (hn : l.length < 1000) (h : ∀ x ∈ l, GoodS x) (k : Nat) (hk : l.length + 70 ≤ k) : script_Put.f k l = some (flat l) :=
 (put_l l hn h l.length 0 k [] (by omega) (by omega) (by simp only [List.length_nil]; omega)).trans (by rw [List.drop_zero]; rfl)
theorem readS_l : ∀ (l : List S42) (n : Nat) (t : List Int) (out : List S42), (∀ x ∈ l, GoodS x) → readS (n + l.length) (flat l ++ t) out = readS n t (out ++ l)
 | [], n, t, out, _ => by rw [List.append_nil]; rfl
 | x :: r, n, t, out, h => by
  have hx := h x (List.mem_cons_self ..)
  have hne := stepB_ne x
  rw [List.length_cons, ← Nat.add_assoc, readS, if_neg (by rw [flat_cons, List.append_assoc, List.length_append]; omega), flat_cons, List.append_assoc, step_back x hx, Option.bind_some]
  dsimp only
  rw [rightS_f 9 x, Option.bind_some, hx.right, if_pos (by simp), readS_l r n t _ (fun y hy => h y (List.mem_cons_of_mem _ hy)), List.append_assoc]; rfl
theorem read_back (l : List S42) (hn : l.length < 200) (h : ∀ x ∈ l, GoodS x) : script_Read.f (flat l) = some (l, 0) := by
 have hl := flat_len l h
 unfold script_Read.f
 rw [if_pos ⟨flat_bytes l h, by omega⟩, if_neg (by omega)]
 have e : (flat l).length + 1 = ((flat l).length + 1 - l.length) + l.length := by omega
 have := readS_l l ((flat l).length + 1 - l.length) [] [] h
 rw [List.append_nil, ← e] at this
 rw [this]
 obtain ⟨m, hm⟩ : ∃ m, (flat l).length + 1 - l.length = m + 1 := ⟨(flat l).length - l.length, by omega⟩
 rw [hm, readS, if_pos (show ([] : List Int).length = 0 from rfl), List.nil_append]
theorem read_cut (l : List S42) (hn : l.length < 200) (h : ∀ x ∈ l, GoodS x) (hne : l ≠ []) : ∃ c, script_Read.f (flat l).dropLast = some (l.dropLast, c) := by
 have hl := flat_len l h
 have hpos := List.length_pos_iff.2 hne
 unfold script_Read.f
 rw [if_pos ⟨fun v hv => flat_bytes l h v (List.dropLast_subset _ hv), by rw [List.length_dropLast]; omega⟩, if_neg (by rw [List.length_dropLast]; omega)]
 obtain ⟨a, x, rfl⟩ : ∃ a x, l = a ++ [x] := ⟨l.dropLast, l.getLast hne, (List.dropLast_concat_getLast hne).symm⟩
 have ha : ∀ y ∈ a, GoodS y := fun y hy => h y (List.mem_append_left _ hy)
 have hx : GoodS x := h x (List.mem_append_right _ (List.mem_singleton.2 rfl))
 have h1 := stepB_ne x
 have e1 : (flat (a ++ [x])).dropLast = flat a ++ (stepB x).dropLast := by
  rw [flat_append, flat_cons, show flat [] = [] from rfl, List.append_nil, List.dropLast_append_of_ne_nil (by intro hh; rw [hh] at h1; simp at h1)]
 have hla := flat_len a ha
 rw [e1, List.length_append, List.dropLast_concat]
 have e : (flat a).length + (stepB x).dropLast.length + 1 = ((flat a).length + (stepB x).dropLast.length - a.length + 1) + a.length := by omega
 rw [e, readS_l a _ _ [] ha, List.nil_append, readS]
 by_cases hb : bodyB x = []
 ·have hk := h x (by simp)
  have : (stepB x).dropLast = [] := by unfold stepB; rw [hb, List.append_nil, kind_one _ hk.kind]; rfl
  rw [this, if_pos (show ([] : List Int).length = 0 from rfl)]
  exact ⟨_, rfl⟩
 ·obtain ⟨y, ec, bs', e', hy, he⟩ := step_cut x hx hb
  have hlen : (stepB x).dropLast.length ≠ 0 := by
   unfold stepB
   rw [List.dropLast_append_of_ne_nil hb, List.length_append]
   have := bytesI_pos x.f0
   omega
  rw [if_neg hlen, hy, Option.bind_some]
  dsimp only
  rw [rightS_f 9 y, Option.bind_some, if_neg (by simp [he])]
  exact ⟨_, rfl⟩
end Go.Proofs.YtkkjjogbfjahgaaDoor.Sc
