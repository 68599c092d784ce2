/- Plain: what is read of bytes as steps, by the program and by the reference; the law of ScriptReads. Conditions: those that each theorem states. -/
import Derived.Test.YtkkjjogbfjahgaaDoorPScx40
import Derived.Test.YtkkjjogbfjahgaaDoorSmF
set_option linter.unusedVariables false
set_option linter.unusedSimpArgs false
/- Plain: steps that are read of bytes, by the program and by the reference. -/
namespace Go.Proofs.YtkkjjogbfjahgaaDoor.Sm
open Go Go.Proofs Go.RowKit Go.Proofs.CodBytes Go.Proofs.YtkkjjogbfjahgaaDoorW.PrintWords Go.Proofs.YtkkjjogbfjahgaaDoorW.PrintLast Go.Proofs.YtkkjjogbfjahgaaDoorW.PrintMore Go.Proofs.YtkkjjogbfjahgaaDoor.PSc Go.Proofs.YtkkjjogbfjahgaaDoor.CodSame Go.Proofs.YtkkjjogbfjahgaaDoor.Cur Go.Proofs.YtkkjjogbfjahgaaDoor.Sc
theorem flag_f (b : Bool) : cmd_flag.f b = some (if b = true then 1 else 0) := by unfold cmd_flag.f; cases b <;> rfl
theorem cmd_Read_eq (k : Nat) (l : List Int) : cmd_Read.f k l = some (if (decide (endOf (intsN 12 l 0).2.1 (intsN 12 l 0).2.2 = 0) && (rightC (cmdOf (intsN 12 l 0).1) && decide ((cleanC (cmdOf (intsN 12 l 0).1)).f0 :: ownF (cleanC (cmdOf (intsN 12 l 0).1)) = (intsN 12 l 0).1))) = true then (cmdOf (intsN 12 l 0).1, 0) else (z39, 11)) := by
  unfold cmd_Read.f cmd_Command_Right.f cmd_Command_Clean.f cmd_Command_numbers.f
  simp only [Option.bind_some, flag_f]
  rfl
theorem kindR_or (k : Int) : kindR k = k ∨ kindR k = 0 := by unfold kindR; split <;> simp
theorem rightR_zero (F : List Int) : rightR 0 F = false := by
  have : (fieldsB 0).size = 0 := rfl
  unfold rightR; rw [this]; simp
theorem cmd_same (k : Nat) (l : List Int) : ∃ c e, cmd_Read.f k l = some (c, e) ∧ ((e = 0 ∧ readR l = ((c.f0, ownF c), 0) ∧ rightC c = true ∧ rightR c.f0 (ownF c) = true) ∨ (e = 11 ∧ (readR l).2 = 11)) := by
  rw [cmd_Read_eq]
  have hlen := intsN_len 12 l 0
  unfold readR
  obtain ⟨vs, bE, eE, hN⟩ : ∃ vs bE eE, intsN 12 l 0 = (vs, bE, eE) := ⟨_, _, _, rfl⟩
  rw [hN] at hlen ⊢
  obtain ⟨k0, a1, a2, a3, a4, a5, a6, a7, a8, a9, a10, v, rfl⟩ := list12 vs hlen
  have hg := good_same k0 a1 a2 a3 a4 a5 a6 a7 a8 a9 a10 v
  simp only [List.tail_cons, List.getD_cons_zero]
  have hc : cmdOf [k0, a1, a2, a3, a4, a5, a6, a7, a8, a9, a10, v] = ⟨k0, a1, a2, a3, a4, a5, a6, a7, a8, a9, a10, v == 1⟩ := rfl
  rw [hc]
  by_cases he : endOf bE eE = 0
  · by_cases hP : goodP ⟨k0, a1, a2, a3, a4, a5, a6, a7, a8, a9, a10, v == 1⟩ [k0, a1, a2, a3, a4, a5, a6, a7, a8, a9, a10, v]
    · obtain ⟨hQ, hk⟩ := hg.1 hP
      obtain ⟨p1, p2⟩ := hP
      rw [if_pos (by rw [decide_eq_true he, p1, decide_eq_true p2]; rfl)]
      rw [hk] at hQ ⊢
      rw [if_pos ⟨he, hQ.1, hQ.2⟩]
      have hv : (if (v == 1) = true then (1 : Int) else 0) = v := by
        have h11 := congrArg (fun l : List Int => l.getD 11 0) p2
        have h12 : (if (cleanC ⟨k0, a1, a2, a3, a4, a5, a6, a7, a8, a9, a10, v == 1⟩).f11 = true then (1 : Int) else 0) = v := h11
        by_cases h1 : v = 1
        · subst h1; rfl
        · rw [if_neg (by simpa using h1)]
          split at h12
          · exact absurd h12.symm h1
          · exact h12
      have hF : ownF ⟨k0, a1, a2, a3, a4, a5, a6, a7, a8, a9, a10, v == 1⟩ = [a1, a2, a3, a4, a5, a6, a7, a8, a9, a10, v] := by
        unfold ownF; dsimp only; rw [hv]
      exact ⟨_, _, rfl, .inl ⟨rfl, by rw [hF], p1, by rw [hF]; exact hQ.1⟩⟩
    · rw [if_neg (by
        rw [decide_eq_true he]
        intro hh
        simp only [Bool.true_and, Bool.and_eq_true, decide_eq_true_eq] at hh
        exact hP hh)]
      have hQ : ¬ (endOf bE eE = 0 ∧ rightR (kindR k0) [a1, a2, a3, a4, a5, a6, a7, a8, a9, a10, v] = true ∧ cleanR (kindR k0) [a1, a2, a3, a4, a5, a6, a7, a8, a9, a10, v] = (kindR k0, [a1, a2, a3, a4, a5, a6, a7, a8, a9, a10, v])) := by
        rintro ⟨_, q1, q2⟩
        rcases kindR_or k0 with h | h
        · exact hP (hg.2 ⟨⟨q1, q2⟩, h⟩)
        · rw [h, rightR_zero] at q1; cases q1
      rw [if_neg hQ]
      exact ⟨_, _, rfl, .inr ⟨rfl, rfl⟩⟩
  · rw [if_neg (by rw [decide_eq_false he]; simp), if_neg (fun h => he h.1)]
    exact ⟨_, _, rfl, .inr ⟨rfl, rfl⟩⟩
/-- one step, of both -/
theorem step_same (bs : List Int) : ∃ x ec b e r, stepF 10 bs 0 = some (x, ec, b, e) ∧ script_Step_Right.f 10 x.f0 x.f1.f0 x.f1.f1 x.f1.f2 x.f1.f3 x.f1.f4 x.f1.f5 x.f1.f6 x.f1.f7 x.f1.f8 x.f1.f9 x.f1.f10 x.f1.f11 x.f2 x.f3 x.f4.f0 x.f4.f1 x.f4.f2 x.f4.f3 = some r ∧
    (refStep bs).2.2 = (b, e) ∧ (ec = 0 ↔ (refStep bs).2.1 = 0) ∧ (ec = 0 → (refStep bs).1 = ownS x ∧ rightRS (ownS x) = r) := by
  have hin := smallOf_in 5 (by omega) bs 0
  unfold stepF refStep
  dsimp only
  obtain ⟨kd, b1, e1, hs⟩ : ∃ kd b1 e1, smallOf 5 bs 0 = (kd, b1, e1) := ⟨_, _, _, rfl⟩
  rw [hs] at hin ⊢
  dsimp only at hin ⊢
  by_cases h0 : kd = 0
  · subst h0
    obtain ⟨c, ce, hc, hor⟩ := cmd_same 10 (textOf b1 e1).1
    simp only [if_true, hc, Option.bind_some]
    refine ⟨_, _, _, _, rightC c, rfl, rfl, rfl, ?_, ?_⟩
    · rcases hor with ⟨rfl, hr, _⟩ | ⟨rfl, hr⟩
      · rw [hr]
      · rw [hr]
    · intro he
      rcases hor with ⟨_, hr, h1, h2⟩ | ⟨h1, _⟩
      · rw [hr]
        refine ⟨rfl, ?_⟩
        show rightRS ⟨0, c.f0, ownF c, ⟨#[]⟩, _⟩ = _
        unfold rightRS
        dsimp only
        rw [h1, h2]; rfl
      · omega
  simp only [h0, if_false]
  by_cases h1 : kd = 1
  · subst h1
    simp only [if_true]
    refine ⟨_, _, _, _, _, rfl, rfl, rfl, by simp, fun _ => ⟨rfl, ?_⟩⟩
    show rightRS ⟨1, 0, _, strOfNums (textOf b1 e1).1, _⟩ = _
    unfold rightRS
    dsimp only
    simp
    omega
  simp only [h1, if_false]
  by_cases h2 : kd = 2
  · subst h2
    simp only [if_true]
    exact ⟨_, _, _, _, true, rfl, rfl, rfl, by simp, fun _ => ⟨rfl, rfl⟩⟩
  simp only [h2, if_false]
  by_cases h3 : kd = 3
  · subst h3
    simp only [if_true]
    refine ⟨_, _, _, _, true, rfl, rfl, rfl, by simp, fun _ => ⟨?_, rfl⟩⟩
    obtain ⟨v0, v1, v2, v3, hv⟩ := list4 _ (intsN_len 4 b1 e1)
    rw [hv]; rfl
  simp only [h3, if_false]
  rcases (show kd = 4 ∨ kd = 5 by omega) with rfl | rfl
  · exact ⟨_, _, _, _, true, rfl, rfl, rfl, by simp, fun _ => ⟨rfl, rfl⟩⟩
  · exact ⟨_, _, _, _, true, rfl, rfl, rfl, by simp, fun _ => ⟨rfl, rfl⟩⟩
theorem reads_same : ∀ (n : Nat) (bs : List Int) (out : List S42), bs.length < n → ∃ R, readS n bs out = some R ∧ refReadS n bs (out.map ownS) = some (R.1.map ownS, R.2) ∧ R.1.length ≤ out.length + bs.length
  | 0, bs, out, h => by omega
  | n + 1, bs, out, h => by
    rw [readS, refReadS]
    by_cases hz : bs.length = 0
    · rw [if_pos hz, if_pos hz]
      exact ⟨_, rfl, rfl, by simp⟩
    · rw [if_neg hz, if_neg hz]
      obtain ⟨x, ec, b, e, r, h1, h2, h3, h4, h5⟩ := step_same bs
      rw [h1, Option.bind_some]
      dsimp only
      rw [h2, Option.bind_some]
      rw [h3]
      dsimp only
      by_cases hec : ec = 0
      · obtain ⟨h6, h7⟩ := h5 hec
        rw [h6, h7]
        by_cases hg : e = 0 ∧ r = true
        · obtain ⟨he, hr⟩ := hg
          have hlt := stepF_lt h1 he
          rw [if_pos (by simp [hec, he, hr]), if_pos ⟨he, h4.1 hec, hr⟩]
          obtain ⟨R, r1, r2, r3⟩ := reads_same n b (out ++ [x]) (by omega)
          refine ⟨R, r1, ?_, by simp at r3; omega⟩
          rw [List.map_append] at r2
          exact r2
        · rw [if_neg (by simp [hec]; intro he; cases r <;> simp_all), if_neg (fun hh => hg ⟨hh.1, hh.2.2⟩)]
          exact ⟨_, rfl, rfl, by simp⟩
      · rw [if_neg (by simp [hec]), if_neg (fun hh => hec (h4.2 hh.2.1))]
        exact ⟨_, rfl, rfl, by simp⟩
end Go.Proofs.YtkkjjogbfjahgaaDoor.Sm
set_option linter.unusedVariables false
set_option linter.unusedSimpArgs false
/- Plain: the law of ScriptReads; its walk. -/
namespace Go.Proofs.YtkkjjogbfjahgaaDoor.Sm
open Go Go.Proofs Go.RowKit Go.Proofs.CodBytes Go.Proofs.YtkkjjogbfjahgaaDoorW.PrintWords Go.Proofs.YtkkjjogbfjahgaaDoorW.PrintLast Go.Proofs.YtkkjjogbfjahgaaDoorW.PrintMore Go.Proofs.YtkkjjogbfjahgaaDoor.PSc Go.Proofs.YtkkjjogbfjahgaaDoor.CodSame Go.Proofs.YtkkjjogbfjahgaaDoor.Cur Go.Proofs.YtkkjjogbfjahgaaDoor.Sc
theorem bdu8 {z : Int} (h : (Lit.int .u8 z).wf = true) : 0 ≤ z ∧ z < 256 := by simp [Lit.wf, IntKind.min, IntKind.max, IntKind.signed, IntKind.bits] at h; omega
theorem upK {α : Type} {f : Nat → Option α} (hm : ∀ k, LeO (f k) (f (k + 1))) {k k' : Nat} {r : α} (h : f k = some r) (hk : k ≤ k') : f k' = some r := by
  induction hk with
  | refl => exact h
  | step _ ih => exact hm _ _ ih
theorem one100 : berthinglaw28_one.f 100 = some true := by
  have h1 : script_Read.f [8, 10] = some ([(⟨4, z39, ⟨#[]⟩, 0, z40⟩ : S42), (⟨5, z39, ⟨#[]⟩, 0, z40⟩ : S42)], 0) := by kernel_rfl
  have h2 : script_Put.f 100 [(⟨4, z39, ⟨#[]⟩, 0, z40⟩ : S42), (⟨5, z39, ⟨#[]⟩, 0, z40⟩ : S42)] = some [8, 10] := by kernel_rfl
  unfold berthinglaw28_one.f
  rw [h1, Option.bind_some]
  refine (congrArg (fun o => Option.bind o _) h2).trans ?_
  rw [Option.bind_some, if_pos (by rw [ByteArray.toList_eq]; rfl), if_pos rfl, if_pos (by simp), if_pos (by simp)]
  rfl
theorem one_f (k : Nat) (hk : 100 ≤ k) : berthinglaw28_one.f k = some true := upK (f := fun k => berthinglaw28_one.f k) (fun k => berthinglaw28_one.mono k) one100 hk
theorem rd42 (l : List S42) (i : Nat) (hi : i < l.length) : rd_T42 l (i : Int) = l[i] := by unfold rd_T42; simp [List.getD_eq_getElem?_getD, List.getElem?_eq_getElem hi]
theorem rd35 (l : List S35) (i : Nat) (hi : i < l.length) : rd_T35 l (i : Int) = l[i] := by unfold rd_T35; simp [List.getD_eq_getElem?_getD, List.getElem?_eq_getElem hi]
theorem wrap_nat (i : Nat) (hi : i < 4611686018427387904) : wrap64 ((i : Int) + 1) = ((i + 1 : Nat) : Int) := by unfold wrap64; omega
theorem law_l (xs : List S42) (hx : xs.length < 1000000) : ∀ (d i k : Nat), i + d = xs.length → d + 102 ≤ k → berthinglaw28_ScriptReads.l0 k xs ((xs.map ownS).map toS35) (i : Int) = some true
  | 0, i, k, hi, hk => by
    obtain ⟨k, rfl⟩ : ∃ m, k = m + 1 := ⟨k - 1, by omega⟩
    rw [berthinglaw28_ScriptReads.l0, if_neg (by omega), one_f k (by omega)]; rfl
  | d + 1, i, k, hi, hk => by
    obtain ⟨k, rfl⟩ : ∃ m, k = m + 1 := ⟨k - 1, by omega⟩
    have hil : i < xs.length := by omega
    have hil2 : i < ((xs.map ownS).map toS35).length := by simp; omega
    rw [berthinglaw28_ScriptReads.l0, if_pos (by omega), if_pos (by omega)]
    unfold berthinglaw28_Own.f
    rw [Option.bind_some, if_pos (by simp; omega), rd42 xs i hil, rd35 _ i hil2, if_neg, wrap_nat i (by omega)]
    · exact law_l xs hx d (i + 1) k (by omega) (by omega)
    · have e : ((xs.map ownS).map toS35)[i] = toS35 (ownS xs[i]) := by simp
      rw [e]
      generalize xs[i] = x
      by_cases h3 : x.f0 = 3 <;> simp [toS35, ownS, ownF, h3]
theorem ScriptReads_law (l : List Int) (hb : ∀ x ∈ l, 0 ≤ x ∧ x < 256) : ∃ k, berthinglaw28_ScriptReads.f k l = some true := by
  by_cases hbig : (l.length : Int) > 4000
  · exact ⟨0, by unfold berthinglaw28_ScriptReads.f; rw [if_pos hbig]⟩
  · obtain ⟨R, h1, h2, h3⟩ := reads_same (l.length + 1) l [] (by omega)
    have hs : script_Read.f l = some R := by
      unfold script_Read.f
      rw [if_pos ⟨hb, by omega⟩, if_neg (by omega)]; exact h1
    have hr : berthingref28_Read.f (strOfNums l) = some ((R.1.map ownS).map toS35, R.2) := by
      unfold berthingref28_Read.f
      rw [str_size, bytesOf_str l hb, if_pos (by omega), if_neg (by omega)]
      have : refReadS (l.length + 1) l [] = some (R.1.map ownS, R.2) := h2
      rw [this]; rfl
    refine ⟨R.1.length + 200, ?_⟩
    unfold berthinglaw28_ScriptReads.f
    rw [if_neg hbig, hs, Option.bind_some, hr, Option.bind_some, if_pos rfl]
    have hl : ((R.1.length : Int) != ((((R.1.map ownS).map toS35).length : Nat) : Int)) = false := by simp
    rw [hl, show R.1.length + 200 = (R.1.length + 199) + 1 from rfl, berthinglaw28_ScriptReads.j0, if_neg (by simp)]
    exact law_l R.1 (by simp at h3; omega) R.1.length 0 _ (by omega) (by omega)
theorem ScriptReads_walk (A0 : Option Addr) (c0 : Nat) (l0 : List Int) (w : World) (hr0 : Kd.C (Kd.int .u8) w A0 l0.length l0) (hc0 : l0.length ≤ c0) (hb : ∀ x ∈ l0, 0 ≤ x ∧ x < 256) (hE : Cur.ErrT w) :
    Calls Tryd.prog 3 #[.slice A0 l0.length c0] w fun e w' => e = .returned (.bool true) ∧ Below w.heap.size w w' := by
  obtain ⟨k, hk⟩ := ScriptReads_law l0 hb
  exact berthinglaw28_ScriptReads.calls k A0 c0 l0 true w hE hr0 hc0 hk
end Go.Proofs.YtkkjjogbfjahgaaDoor.Sm
