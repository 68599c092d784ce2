/- The law ScriptPuts' own walk. Conditions: those that each theorem states. -/
import Derived.Test.YtkkjjogbfjahgaaDoorSpPb
import Derived.Test.YtkkjjogbfjahgaaDoorPScx23
set_option linter.unusedVariables false
set_option linter.unusedSimpArgs false
/- The law's own walk. -/
namespace Go.Proofs.YtkkjjogbfjahgaaDoor.Sm
open Go Go.Proofs Go.RowKit Go.Proofs.CodBytes Go.Proofs.YtkkjjogbfjahgaaDoorW.PrintWords Go.Proofs.YtkkjjogbfjahgaaDoorW.PrintLast Go.Proofs.YtkkjjogbfjahgaaDoorW.PrintMore Go.Proofs.YtkkjjogbfjahgaaDoor.PSc Go.Proofs.YtkkjjogbfjahgaaDoor.CodSame
attribute [local go_sem ↓ high] eqA35
def s35 (s : RS) : S35 := ⟨s.kind, ⟨s.mkd, ⟨s.F.getD 0 0, s.F.getD 1 0, s.F.getD 2 0, s.F.getD 3 0, s.F.getD 4 0, s.F.getD 5 0, s.F.getD 6 0, s.F.getD 7 0, s.F.getD 8 0, s.F.getD 9 0, s.F.getD 10 0⟩⟩, s.line, ⟨s.N.getD 0 0, s.N.getD 1 0, s.N.getD 2 0, s.N.getD 3 0⟩⟩
def own35 (x : S42) : S35 := s35 (ownS x)
theorem rsOf_own (x : S42) : rsOf (own35 x) = ownS x := by
  by_cases h : x.f0 = 3 <;> simp [own35, rsOf, s35, ownS, ownF, h]
theorem row42 {w : World} {A : Option Addr} {n : Nat} {xs : List S42} (h : Kd.C k42 w A n xs) (i : Nat) (hi : i < n) (hl : i < xs.length) : ∃ ad, A = some ad ∧ RowAt w (ad.add (i * 19)) (stepA xs[i]).toList := by
  obtain ⟨ad, c, e, _, hK, hc0⟩ := Kd.C_get h z42 (i : Int) (by omega) (by omega)
  have hc : ∀ j u, c[j]? = some u → w.cell? (ad.add (i * 19 + j)) = some u := hc0
  have he : xs.getD ((i : Int).toNat) z42 = xs[i] := by simp [List.getD_eq_getElem?_getD, List.getElem?_eq_getElem hl]
  rw [he] at hK
  obtain rfl := k42_open hK
  refine ⟨ad, e, fun j v hj => ?_⟩
  rw [Addr.add_add]
  exact hc j v hj
theorem RowAt.line {w : World} {ad : Addr} {s : S42} (h : RowAt w ad (stepA s).toList) : w.cell? ⟨ad.block, ad.off + 13, none⟩ = some (.string s.f2) := by
  have := h 13 (.string s.f2) rfl
  rwa [show ad.add 13 = ⟨ad.block, ad.off + 13, none⟩ from rfl] at this
theorem rowM {x : S42} {zs : List Value} (h : rsA (ownS x) = zs.toArray) {w : World} {base : Nat} {ok : Nat → Prop} : k35.M w base ok (own35 x) zs := by
  have e : zs = (rsA (rsOf (own35 x))).toList := by rw [rsOf_own, h]
  rw [e]
  exact k35_mkM w base ok (own35 x)
theorem ownN_len (x : S42) : (ownS x).N.length = 4 := by unfold ownS; dsimp only; split <;> rfl
theorem rsA_lit (s : RS) (hF : s.F.length = 11) (hN : s.N.length = 4) : ∃ (z0 z1 z2 z3 z4 z5 z6 z7 z8 z9 z10 z11 z12 : Int) (z13 : ByteArray) (z14 z15 z16 z17 : Int), rsA s = #[.int .i64 z0, .int .i64 z1, .int .i64 z2, .int .i64 z3, .int .i64 z4, .int .i64 z5, .int .i64 z6, .int .i64 z7, .int .i64 z8, .int .i64 z9, .int .i64 z10, .int .i64 z11, .int .i64 z12, .string z13, .int .i64 z14, .int .i64 z15, .int .i64 z16, .int .i64 z17] := by
  obtain ⟨k, mk, F, ln, N⟩ := s
  dsimp only at hF hN
  obtain ⟨f0, f1, f2, f3, f4, f5, f6, f7, f8, f9, f10, rfl⟩ := list11' F hF
  obtain ⟨n0, n1, n2, n3, rfl⟩ := list4' N hN
  exact ⟨_, _, _, _, _, _, _, _, _, _, _, _, _, _, _, _, _, _, rfl⟩
/-- two rows, as they stand -/
def Rows2 (a1 : Addr) (c1 : List Value) (a2 : Addr) (c2 : List Value) (W : World) : Prop := RowAt W a1 c1 ∧ RowAt W a2 c2
theorem Rows2.drew {a1 a2 : Addr} {c1 c2 : List Value} {W : World} (h : Rows2 a1 c1 a2 c2 W) : Rows2 a1 c1 a2 c2 W.drew := h
theorem Rows2.call {a1 a2 : Addr} {c1 c2 : List Value} {W W1 : World} (h : Rows2 a1 c1 a2 c2 W) (hB : Below W.heap.size W W1) : Rows2 a1 c1 a2 c2 W1 := ⟨h.1.kept hB, h.2.kept hB⟩
section
variable {P : Program} {ops : Array Oper} {Q : Exit → Act → World → Prop} {S : World → Prop}
theorem lex_pureE {i : Nat} {r : Lx} {o : Oper} {N : Tmp} {a a' : Act} {W : World} {v : Value} (hi : ops[i]? = some o) (hN : o.dst = some N) (hg : Region.wanted o (yielded ops a.tmps) = true) (hrun : (execOp a.eval o).run P W = .ok (.value v) W) (ha : a.put (some N) v = a') (hS : S W) (h : wpLex P ops Q S r a' W) : wpLex P ops Q S (.e i r) a W := by
  subst ha
  refine lex_eff hi hg fun K hK => ?_
  unfold Oper.wp
  rw [hrun]
  show K (a.put o.dst _) _
  rw [hN]
  exact hK _ _ hS h
end
theorem cleanRS_F (s : RS) (h : s.F.length = 11) : (cleanRS s).F.length = 11 := by
  unfold cleanRS
  repeat' split
  all_goals first | exact cleanR_len' _ _ h | rfl
theorem cleanRS_N (s : RS) (h : s.N.length = 4) : (cleanRS s).N.length = 4 := by
  unfold cleanRS
  repeat' split
  all_goals first | exact h | rfl
theorem rightS_c (x : S42) (w : World) : Calls Tryd.prog 10 #[.agg (stepA x)] w fun e w' => e = .returned (.bool (rightS x)) ∧ Below w.heap.size w w' :=
  script_Step_Right.calls 10 _ _ _ _ _ _ _ _ _ _ _ _ _ _ _ _ _ _ _ (rightS x) w (rightS_f 10 x)
section
variable {P : Program} {o : Oper} {a : Act} {W : World} {t : TypeId} {y : Operand} {d : TypeDesc}
theorem elem_run (ho : o.op = .load t y) {ad : Addr} {cs : Array Value} (hr : RowAt W ad cs.toList) (hx : a.eval y = .pointer (some ad)) (hu : P.underlying t = some d) (hd : d.aggB = true) (hi : (P.info? t).map (·.size) = some cs.size) :
    (execOp a.eval o).run P W = .ok (.value (.agg cs)) W := by
  unfold execOp
  rw [ho]
  have hl := run_loadCells_list (P := P) (w := W) ad cs.toList hr
  obtain ⟨q, hq⟩ := Option.map_eq_some_iff.1 hi
  cases d <;> simp [TypeDesc.aggB] at hd <;> simp [hx, Instr.loadAt, Instr.sureAddr, loadVar, isAgg, run_underlying hu, sizeOf, typeInfo, hq.1, hq.2] <;> simp_all
end
section
variable {P : Program} {o : Oper} {a : Act} {W : World} {src dst : TypeId} {x : Operand} {v r : Value}
theorem conv_run (ho : o.op = .convert src dst x) (hx : a.eval x = v) (h : (convert src dst v).run P W = .ok r W) : (execOp a.eval o).run P W = .ok (.value r) W := by
  unfold execOp
  rw [ho]
  simp [hx, h]
end
theorem info35 : (Tryd.prog.info? 35).map (fun i => (i.zero, i.size, i.bytes)) = some (some (.agg #[.int .i64 0, .int .i64 0, .int .i64 0, .int .i64 0, .int .i64 0, .int .i64 0, .int .i64 0, .int .i64 0, .int .i64 0, .int .i64 0, .int .i64 0, .int .i64 0, .int .i64 0, .string ⟨#[]⟩, .int .i64 0, .int .i64 0, .int .i64 0, .int .i64 0]), 18, 152) := by kernel_rfl
set_option maxRecDepth 100000 in
set_option maxHeartbeats 4000000 in
theorem ScriptPuts_walk (A : Option Addr) (c0 : Nat) (l0 : List S42) (w : World) (hC : Kd.C k42 w A l0.length l0) (hc : l0.length ≤ c0) (h64 : ∀ x ∈ l0, Step64 x) (hOne : ∀ w1, Below w.heap.size w w1 → Calls Tryd.prog 9 #[] w1 fun e w' => e = .returned (.bool true) ∧ Below w1.heap.size w1 w') :
    Calls Tryd.prog 4 #[.slice A l0.length c0] w fun e w' => e = .returned (.bool true) ∧ Below w.heap.size w w' := by
  have hu23 := Tryd.underlying23
  have hu27 := Tryd.underlying27
  have hu42 := Tryd.underlying42
  have hu35 := Tryd.underlying35
  have HC0 := Aside0.mk hC
  have H640 := Aside0.mk h64
  have HONE := Aside0.mk hOne
  have HCC := Aside0.mk hc
  clear hC h64 hOne hc
  go_enter Tryd.func4, Tryd.ntmps4
  go_upto_if 7 with fail
  go_cut [0] (fun v0 wc => ∃ (l : List S42) (c : Nat), v0 = .slice A l.length c ∧ Aside0 (Kd.C k42 wc A l.length l) ∧ Aside0 (l.length ≤ c) ∧ Aside0 (∀ x ∈ l, Step64 x) ∧ Aside0 (l.length ≤ 60) ∧ wc = w)
  case first =>
    by_cases hle : (60 : Int) < l0.length
    · have hcI : (60 : Int) ≤ c0 := by have := HCC.out; omega
      have h60 : 60 ≤ l0.length := by omega
      have hl60 : (l0.take 60).length = 60 := by rw [List.length_take]; omega
      go_wp2
      go_meet
      case rel => exact ⟨l0.take 60, c0, by rw [hl60], ⟨Kd.C_take HC0.out h60⟩, ⟨by rw [hl60]; omega⟩, ⟨fun x hx => H640.out x (List.mem_of_mem_take hx)⟩, ⟨by omega⟩, rfl⟩
    · go_wp2
      go_meet
      case rel => exact ⟨l0, c0, rfl, HC0, HCC, H640, ⟨by omega⟩, rfl⟩
  case rest =>
  obtain ⟨l, c, rfl, HC, HCL, H64, HLE, hw⟩ := hcut
  obtain rfl : w = wc := hw.symm
  have hc := HCL.out
  have hle := HLE.out
  go_wp2
  go_loopw [3, 4] (fun v3 v4 wr => ∃ (i : Nat), i ≤ l.length ∧ v4 = .int .i64 i ∧ Kd.R k35 35 wr w.heap.size (fun _ => True) v3 ((l.take i).map own35) ∧ (∀ x ∈ l.take i, x.f2.size ≤ 1000) ∧ Below w.heap.size w wr) (fun _ v4 _ => l.length - (intOf v4).toNat)
  case atStart => exact ⟨0, Nat.zero_le _, rfl, Kd.R_nil _ _ _ _ _, by simp, Below.refl _ _⟩
  case round =>
    rename_i u3 u4 wr
    obtain ⟨i, hi, rfl, hR, hsz, hB⟩ := hrel
    have H : HG w.heap.size wr [] wr := ⟨Below.refl _ _, by simp, .nil, hB.size, fun _ _ _ => rfl⟩
    have HW0 := Aside0.mk hB
    have HRR := Aside0.mk hR
    have HSZ := Aside0.mk hsz
    clear hB hR hsz
    by_cases hlt : i < l.length
    · have h0 : (0 : Int) ≤ i := by omega
      have h1 : (i : Int) < l.length := by omega
      obtain ⟨ad, rfl, hrw⟩ := row42 HC.out i hlt hlt
      have hmem := List.getElem_mem hlt
      obtain ⟨x, hx⟩ : ∃ x, x = l[i] := ⟨_, rfl⟩
      rw [← hx] at hmem hrw
      have hx64 := H64.out x hmem
      have HRW := Aside0.mk hrw
      have hln := (hrw.kept HW0.out).line
      have HLX := Aside0.mk hx
      clear hrw hmem hx
      by_cases hbig : (1000 : Int) < x.f2.size
      · go_wp2
        go_ret
        exact ⟨rfl, HW0.out⟩
      · obtain ⟨z0, z1, z2, z3, z4, z5, z6, z7, z8, z9, z10, z11, z12, z13, z14, z15, z16, z17, hz⟩ := rsA_lit (ownS x) rfl (ownN_len x)
        have C8 := own28_c x
        rw [hz] at C8
        have HC8 := Aside0.mk C8
        have HZ := Aside0.mk hz
        have HBG := Aside0.mk hbig
        clear C8 hz
        go_wp2_with (first
   | ((with_reducible refine (HC8.out _).mono ?_); rintro e w2 ⟨rfl, B2⟩; replace H := H.call B2; clear B2)
   | ((with_reducible refine gate_load rfl ?_); refine hb_elem rfl rfl (HRW.out.kept (HW0.out.trans H.below)) rfl Tryd.underlying42 rfl (by kernel_rfl) ?_)
   | ((with_reducible refine gate_builtin (b := .append) (xs := #[.tmp 23, .tmp 29]) rfl ?_); at_builtin; refine Kd.R_append k35 (w0 := w) w.heap.size rfl (.tmp 23) (.tmp 29) 27 35 (.agg #[.int .i64 0, .int .i64 0, .int .i64 0, .int .i64 0, .int .i64 0, .int .i64 0, .int .i64 0, .int .i64 0, .int .i64 0, .int .i64 0, .int .i64 0, .int .i64 0, .int .i64 0, .string ⟨#[]⟩, .int .i64 0, .int .i64 0, .int .i64 0, .int .i64 0]) 152 rfl Tryd.underlying27 info35 rfl (by decide) (by omega) u3 ((l.take i).map own35) (own35 x) [.int .i64 z0, .int .i64 z1, .int .i64 z2, .int .i64 z3, .int .i64 z4, .int .i64 z5, .int .i64 z6, .int .i64 z7, .int .i64 z8, .int .i64 z9, .int .i64 z10, .int .i64 z11, .int .i64 z12, .string z13, .int .i64 z14, .int .i64 z15, .int .i64 z16, .int .i64 z17] (fun _ => True) (fun _ => False) rfl (by first | (go_simp; done) | (go_simp; rfl)) ?aP (fun _ hk => hk.elim) ?aF ?aO ?aB ?aS ?aL ?_; (case aP => exact rowM HZ.out); (case aF => exact fun _ _ => trivial); (case aO => exact H.R HRR.out (by simp)); (case aB => exact HW0.out.trans H.below); (case aS => exact (HW0.out.trans H.below).size); (case aL => rw [List.length_map, List.length_take]; omega); intro v5 w5 hR5 hB5 hg5 hat5))
        have hyl : ((l.take i).map own35 ++ [own35 x]).length = i + 1 := by simp; omega
        have hye : (l.take i).map own35 ++ [own35 x] = (l.take (i + 1)).map own35 := by rw [List.take_succ_eq_append_getElem hlt, ← HLX.out]; simp
        rw [hye] at hR5 hyl
        obtain ⟨ys, hys⟩ : ∃ ys, ys = (l.take (i + 1)).map own35 := ⟨_, rfl⟩
        rw [← hys] at hR5 hyl
        have HYS := Aside0.mk hys
        have hiy : i < ys.length := by omega
        have hyx : ys[i] = own35 x := by
          have e1 : ys = (l.take i).map own35 ++ [own35 x] := by rw [hys, hye]
          have e2 : ((l.take i).map own35).length = i := by rw [List.length_map, List.length_take]; omega
          simp only [e1]
          rw [List.getElem_append_right (by omega)]
          simp [e2]
        clear hye hys H
        obtain ⟨Ao, co, rfl⟩ := Kd.R_slice hR5
        obtain ⟨ao, rfl, hro⟩ := row35 (Kd.R_reads' hR5).2.2 i hiy hiy
        rw [hyx, rsOf_own] at hro
        have h2 : (i : Int) < ys.length := by omega
        have H : HG w.heap.size w5 [] w5 := ⟨Below.refl _ _, by simp, .nil, hB5.size, fun _ _ _ => rfl⟩
        have HS2 : Aside0 (Rows2 (ad.add (i * 19)) (stepA x).toList (ao.add (i * 18)) (rsA (ownS x)).toList w5) := ⟨HRW.out.kept hB5, hro⟩
        have HR5 := Aside0.mk hR5
        have HB5 := Aside0.mk hB5
        have HYL := Aside0.mk hyl
        clear hR5 hB5 hro hyx hyl hiy
        obtain ⟨q0, q1, q2, q3, q4, q5, q6, q7, q8, q9, q10, q11, q12, q13, q14, q15, q16, q17, hq⟩ := rsA_lit (cleanRS (ownS x)) (cleanRS_F (ownS x) rfl) (cleanRS_N (ownS x) (ownN_len x))
        have hlz : (ownS x).line.size < 9223372036854775807 := by show x.f2.size < _; have := HBG.out; omega
        have C10 := rightS_c x
        have C11 := right28_c (ownS x) rfl (ownN_len x) hlz
        rw [right_step] at C11
        obtain ⟨r, hr⟩ : ∃ r, r = rightS x := ⟨_, rfl⟩
        rw [← hr] at C10 C11
        have C12 := cleanS_c x
        have C8 := own28_c (cleanS x)
        have C13 := clean28_c (ownS x) rfl (ownN_len x)
        rw [clean_step, hq] at C8
        rw [hq] at C13
        have D10 := Aside0.mk C10
        have D11 := Aside0.mk C11
        have D12 := Aside0.mk C12
        have D8 := Aside0.mk C8
        have D13 := Aside0.mk C13
        clear C10 C11 C12 C8 C13 hq hlz hr
        (refine lex_start (.t 0 (.t 1 (.t 2 (.t 3 (.t 5 (.t 6 (.t 7 (.t 8 (.e 4 (.e 9 (.t 10 (.t 11 (.t 12 (.t 13 (.t 14 (.t 15 (.t 18 (.t 19 (.t 20 (.t 21 (.e 16 (.e 17 (.e 22 (.t 23 (.t 24 .n))))))))))))))))))))))))) (by kernel_rfl) (by decide +kernel) (HS2.out.drew) (fun _ _ d _ _ h => by cases d <;> exact h) (fun _ => ?_)); replace H := H.drew; replace HS2 := Aside0.mk HS2.out.drew
        repeat' (first
         | (refine lexg_load (t := 42) rfl rfl ?_; refine lex_pure rfl rfl rfl (by intro W1 h1; exact elem_run rfl h1.1 rfl Tryd.underlying42 rfl (by kernel_rfl)) (by simp only [Act.put, List.setIfInBounds_toArray, List.set_cons_zero, List.set_cons_succ]; rfl) ?_)
         | (refine lexg_load (t := 35) rfl rfl ?_; refine lex_pure rfl rfl rfl (by intro W1 h1; exact elem_run rfl h1.2 rfl Tryd.underlying35 rfl (by rw [HZ.out]; kernel_rfl)) (by simp only [Act.put, List.setIfInBounds_toArray, List.set_cons_zero, List.set_cons_succ]; rfl) ?_)
         | (refine lex_call rfl rfl rfl rfl Tryd.func10 (by kernel_rfl) rfl (by simp only [List.map_toArray, List.map_cons, List.map_nil]; rfl) ?_; refine (D10.out _).mono ?_; rintro e w2 ⟨rfl, B2⟩; replace H := H.call B2; replace HS2 := Aside0.mk (HS2.out.call B2); clear B2; refine ⟨_, rfl, HS2.out, ?_⟩)
         | (refine lex_call rfl rfl rfl rfl Tryd.func11 (by kernel_rfl) rfl (by simp only [List.map_toArray, List.map_cons, List.map_nil]; rfl) ?_; refine (D11.out _).mono ?_; rintro e w2 ⟨rfl, B2⟩; replace H := H.call B2; replace HS2 := Aside0.mk (HS2.out.call B2); clear B2; refine ⟨_, rfl, HS2.out, ?_⟩)
         | (refine lex_call rfl rfl rfl rfl Tryd.func12 (by kernel_rfl) rfl (by simp only [List.map_toArray, List.map_cons, List.map_nil]; rfl) ?_; refine (D12.out _).mono ?_; rintro e w2 ⟨rfl, B2⟩; replace H := H.call B2; replace HS2 := Aside0.mk (HS2.out.call B2); clear B2; refine ⟨_, rfl, HS2.out, ?_⟩)
         | (refine lex_call rfl rfl rfl rfl Tryd.func8 (by kernel_rfl) rfl (by simp only [List.map_toArray, List.map_cons, List.map_nil]; rfl) ?_; refine (D8.out _).mono ?_; rintro e w2 ⟨rfl, B2⟩; replace H := H.call B2; replace HS2 := Aside0.mk (HS2.out.call B2); clear B2; refine ⟨_, rfl, HS2.out, ?_⟩)
         | (refine lex_call rfl rfl rfl rfl Tryd.func13 (by kernel_rfl) rfl (by simp only [List.map_toArray, List.map_cons, List.map_nil]; rfl) ?_; refine (D13.out _).mono ?_; rintro e w2 ⟨rfl, B2⟩; replace H := H.call B2; replace HS2 := Aside0.mk (HS2.out.call B2); clear B2; refine ⟨_, rfl, HS2.out, ?_⟩)
         | (refine lexg_pure ?_; refine lex_pure rfl rfl rfl (by intro W1 h1; go_simp; with_reducible rfl) (by simp only [Act.put, List.setIfInBounds_toArray, List.set_cons_zero, List.set_cons_succ]; rfl) ?_))
        refine lex_done ?_
        go_wp2
        go_roundw
        case rel =>
          refine ⟨i + 1, hlt, by go_num, by rw [← HYS.out]; exact H.R HR5.out (by simp), ?_, HB5.out.trans H.below⟩
          intro y hy
          rw [List.take_succ_eq_append_getElem hlt, List.mem_append, ← HLX.out] at hy
          rcases hy with hy | hy
          · exact HSZ.out y hy
          · obtain rfl := List.mem_singleton.1 hy
            have := HBG.out; omega
        case measure => simp [intOf]; omega
    · obtain rfl : i = l.length := by omega
      have h1 : ¬ (l.length : Int) < l.length := by omega
      have hR := HRR.out
      have hsz := HSZ.out
      rw [List.take_length] at hR hsz
      obtain ⟨Ao, co, rfl⟩ := Kd.R_slice hR
      have hCo := (Kd.R_reads' hR).2.2
      have hp := put_f l (by omega) H64.out 200 (by omega)
      clear H
      have H : HG wr.heap.size wr [] wr := HB.start wr
      go_wp2
      (refine lex_start (S := fun _ => True) (.t 0 (.t 3 (.e 1 (.b 2 4 (.e 4 (.t 5 (.t 6 (.e 7 (.t 8 (.t 9 .n)))))) (.e 2 (.t 5 (.t 6 (.e 7 (.t 8 (.t 9 .n)))))))))) (by kernel_rfl) (by decide +kernel) trivial (fun _ _ d _ _ h => by cases d <;> exact h) (fun _ => ?_)); replace H := H.drew
      have hC0 := HC.out
      have hc0 : l.length ≤ c := hc
      have hb : ∀ W, Below wr.heap.size wr W → Kd.C k35 W Ao ((l.map own35).length) (l.map own35) := fun W h => Kd.C_below hCo h
      have hlen : (l.map own35).length ≤ co := (Kd.R_reads' hR).2.1
      have hrf : ∀ (k : List S42), (∀ x ∈ k, Step64 x) → ((k.map own35).flatMap fun x => refB (rsOf x)) = k.flatMap one42 := by
        intro k
        induction k with
        | nil => intro _; rfl
        | cons x k ih =>
          intro hk
          rw [List.map_cons, List.flatMap_cons, List.flatMap_cons, ih (fun y hy => hk y (List.mem_cons_of_mem _ hy)), rsOf_own, ref_step x (hk x (List.mem_cons_self ..))]
      have hP28 : ∀ W, Below wr.heap.size wr W → Calls Tryd.prog 15 #[.slice Ao l.length co] W fun e w' => e = .returned (.string (strOfNums (l.flatMap one42))) ∧ Below W.heap.size W w' := by
        intro W h
        have := put28_c (l.map own35) Ao co W (hb W h) hlen (by rw [List.length_map]; omega) (by
          intro y hy hr
          obtain ⟨x, hx, rfl⟩ := List.mem_map.1 hy
          rw [rsOf_own]; exact in64_own (H64.out x hx)) (by
          intro y hy
          obtain ⟨x, hx, rfl⟩ := List.mem_map.1 hy
          have := hsz x hx
          show x.f2.size < _
          omega)
        rw [hrf l H64.out, List.length_map] at this
        exact this
      have HP28 := Aside0.mk hP28
      have HPF := Aside0.mk hp
      have HC0 := Aside0.mk hc0
      have HCA := Aside0.mk hC0
      obtain ⟨Z, hZ⟩ : ∃ Z, Z = l.flatMap one42 := ⟨_, rfl⟩
      rw [← hZ] at HP28 HPF
      clear hP28 hp hc0 hC0 hrf hb hCo hsz hR hlen hZ
      repeat' (first
        | (refine lexg_pure ?_; refine lex_pure rfl rfl rfl (by intro W1 h1; go_simp; with_reducible rfl) (by simp only [Act.put, List.setIfInBounds_toArray, List.set_cons_zero, List.set_cons_succ]; rfl) ?_))
      refine lex_call rfl rfl rfl rfl Tryd.func14 (by kernel_rfl) rfl (by simp only [List.map_toArray, List.map_cons, List.map_nil]; rfl) ?_
      refine (script_Put.calls 200 _ _ l _ _ (Kd.C_below HCA.out (below_step HW0.out H.below)) HC0.out HPF.out).mono ?_
      rintro e w2 ⟨v0, rfl, hV, B2⟩
      replace H := H.call B2
      refine ⟨v0, rfl, trivial, ?_⟩
      obtain ⟨Ab, cb, rfl⟩ := Kd.R_slice hV
      have HV := Aside0.mk (Kd.R_reads' hV).2.2
      clear hV B2
      refine lex_two ?_ ?_
      · refine lex_pureE rfl rfl rfl (conv_run rfl rfl (Kd.C_string Tryd.underlying22 Tryd.underlying5 Tryd.underlying9 HV.out)) (by simp only [Act.put, List.setIfInBounds_toArray, List.set_cons_zero, List.set_cons_succ]; rfl) trivial ?_
        have HP4 := HP28.out w2 H.below
        have HP4' := Aside0.mk HP4
        clear HP4
        repeat' (first
          | (refine lexg_pure ?_; refine lex_pure rfl rfl rfl (by intro W1 h1; go_simp; with_reducible rfl) (by simp only [Act.put, List.setIfInBounds_toArray, List.set_cons_zero, List.set_cons_succ]; rfl) ?_))
        refine lex_call rfl rfl rfl rfl Tryd.func15 (by kernel_rfl) rfl (by simp only [List.map_toArray, List.map_cons, List.map_nil]; rfl) ?_
        refine (HP4'.out).mono ?_
        rintro e w3 ⟨rfl, B3⟩
        replace H := H.call B3
        refine ⟨_, rfl, trivial, ?_⟩
        repeat' (first
          | (refine lexg_pure ?_; refine lex_pure rfl rfl rfl (by intro W1 h1; go_simp; with_reducible rfl) (by simp only [Act.put, List.setIfInBounds_toArray, List.set_cons_zero, List.set_cons_succ]; rfl) ?_))
        refine lex_call rfl rfl rfl rfl Tryd.func9 (by kernel_rfl) rfl (by simp only [List.map_toArray, List.map_cons, List.map_nil]; rfl) ?_
        refine (HONE.out _ (below_step HW0.out H.below)).mono ?_
        rintro e w4 ⟨rfl, B4⟩
        replace H := H.call B4
        refine ⟨_, rfl, trivial, ?_⟩
        repeat' (first
          | (refine lexg_pure ?_; refine lex_pure rfl rfl rfl (by intro W1 h1; go_simp; with_reducible rfl) (by simp only [Act.put, List.setIfInBounds_toArray, List.set_cons_zero, List.set_cons_succ]; rfl) ?_))
        refine lex_done ?_
        go_wp2
        go_ret
        exact ⟨rfl, below_step HW0.out H.below⟩
      · have HP4 := HP28.out w2 H.below
        have HP4' := Aside0.mk HP4
        clear HP4
        repeat' (first
          | (refine lexg_pure ?_; refine lex_pure rfl rfl rfl (by intro W1 h1; go_simp; with_reducible rfl) (by simp only [Act.put, List.setIfInBounds_toArray, List.set_cons_zero, List.set_cons_succ]; rfl) ?_))
        refine lex_call rfl rfl rfl rfl Tryd.func15 (by kernel_rfl) rfl (by simp only [List.map_toArray, List.map_cons, List.map_nil]; rfl) ?_
        refine (HP4'.out).mono ?_
        rintro e w3 ⟨rfl, B3⟩
        replace H := H.call B3
        refine ⟨_, rfl, trivial, ?_⟩
        have HV2 := Aside0.mk (Kd.C_below HV.out B3)
        clear HV
        have HV := HV2
        refine lex_pureE rfl rfl rfl (conv_run rfl rfl (Kd.C_string Tryd.underlying22 Tryd.underlying5 Tryd.underlying9 HV.out)) (by simp only [Act.put, List.setIfInBounds_toArray, List.set_cons_zero, List.set_cons_succ]; rfl) trivial ?_
        repeat' (first
          | (refine lexg_pure ?_; refine lex_pure rfl rfl rfl (by intro W1 h1; go_simp; with_reducible rfl) (by simp only [Act.put, List.setIfInBounds_toArray, List.set_cons_zero, List.set_cons_succ]; rfl) ?_))
        refine lex_call rfl rfl rfl rfl Tryd.func9 (by kernel_rfl) rfl (by simp only [List.map_toArray, List.map_cons, List.map_nil]; rfl) ?_
        refine (HONE.out _ (below_step HW0.out H.below)).mono ?_
        rintro e w4 ⟨rfl, B4⟩
        replace H := H.call B4
        refine ⟨_, rfl, trivial, ?_⟩
        repeat' (first
          | (refine lexg_pure ?_; refine lex_pure rfl rfl rfl (by intro W1 h1; go_simp; with_reducible rfl) (by simp only [Act.put, List.setIfInBounds_toArray, List.set_cons_zero, List.set_cons_succ]; rfl) ?_))
        refine lex_done ?_
        go_wp2
        go_ret
        exact ⟨rfl, below_step HW0.out H.below⟩
end Go.Proofs.YtkkjjogbfjahgaaDoor.Sm
namespace Go.Proofs.YtkkjjogbfjahgaaDoor.Sm
open Go Go.Proofs Go.RowKit Go.Proofs.CodBytes Go.Proofs.YtkkjjogbfjahgaaDoorW.PrintWords Go.Proofs.YtkkjjogbfjahgaaDoorW.PrintLast Go.Proofs.YtkkjjogbfjahgaaDoorW.PrintMore Go.Proofs.YtkkjjogbfjahgaaDoor.PSc Go.Proofs.YtkkjjogbfjahgaaDoor.CodSame
theorem upP {α : Type} {f : Nat → Option α} (hm : ∀ k, LeO (f k) (f (k + 1))) {k k' : Nat} {r : α} (h : f k = some r) (hk : k ≤ k') : f k' = some r := by
  induction hk with
  | refl => exact h
  | step _ ih => exact hm _ _ ih
theorem oneP : berthinglaw28_one.f 100 = some true := by
  have h1 : script_Read.f [8, 10] = some ([(⟨4, z39, ⟨#[]⟩, 0, z40⟩ : S42), (⟨5, z39, ⟨#[]⟩, 0, z40⟩ : S42)], 0) := by kernel_rfl
  have h2 : script_Put.f 100 [(⟨4, z39, ⟨#[]⟩, 0, z40⟩ : S42), (⟨5, z39, ⟨#[]⟩, 0, z40⟩ : S42)] = some [8, 10] := by kernel_rfl
  unfold berthinglaw28_one.f
  rw [h1, Option.bind_some]
  refine (congrArg (fun o => Option.bind o _) h2).trans ?_
  rw [Option.bind_some, if_pos (by rw [ByteArray.toList_eq]; rfl), if_pos rfl, if_pos (by simp), if_pos (by simp)]
  rfl
theorem ScriptPuts_goes (A0 : Option Addr) (c0 : Nat) (l0 : List S42) (w : World) (hC : Kd.C k42 w A0 l0.length l0) (hc : l0.length ≤ c0) (h64 : ∀ x ∈ l0, Step64 x) (hE : Cur.ErrT w) :
    Calls Tryd.prog 4 #[.slice A0 l0.length c0] w fun e w' => e = .returned (.bool true) ∧ Below w.heap.size w w' :=
  ScriptPuts_walk A0 c0 l0 w hC hc h64 fun w1 hB => berthinglaw28_one.calls 100 true w1 (hE.below hB) oneP
end Go.Proofs.YtkkjjogbfjahgaaDoor.Sm
