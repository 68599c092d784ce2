/- A part of the proofs over trace (TrRef): contracts of the program's functions and plain laws. Conditions: those that each theorem states. -/
import Derived.Test.YtdpomgfibjlehaaDoorTrRead
import Derived.Test.YtdpomgfibjlehaaDoorSame
import Derived.Test.YtdpomgfibjlehaaDoorPTrx5
import Derived.Test.YtdpomgfibjlehaaDoorPTrx6
set_option linter.unusedVariables false
set_option linter.unusedSimpArgs false
/- the reference's reading: in plain words; it comes to what the program's comes to. -/
namespace Go.Proofs.YtdpomgfibjlehaaDoor.Tr
open Go Go.Proofs Go.RowKit Go.Lib Go.Proofs.YtdpomgfibjlehaaDoorW.PrintWords Go.Proofs.YtdpomgfibjlehaaDoorW.PrintLast Go.Proofs.YtdpomgfibjlehaaDoorW.PrintMore Go.Proofs.YtdpomgfibjlehaaDoor.PTr Go.Proofs.YtdpomgfibjlehaaDoor.Cur

/-- an event, for the reference -/
def toR (x : S46) : S35 := ⟨x.f0, x.f1, x.f2, x.f3, x.f4, x.f5, x.f6⟩
theorem rd35 (l : List S46) (i : Nat) (hi : i < l.length) : rd_T35 (l.map toR) (i : Int) = toR l[i] := by
  unfold rd_T35; rw [Int.toNat_natCast, List.getD_eq_getElem?_getD, List.getElem?_eq_getElem (by simpa using hi), List.getElem_map]; rfl
def risesB' : Int → List S46 → Bool
  | _, [] => true
  | t, x :: r => decide (t ≤ x.f4) && risesB' x.f4 r
def okL (out : List S46) : Bool := out.all rightB && risesB out
theorem rises_cons : ∀ (r : List S46) (x : S46), risesB (x :: r) = risesB' x.f4 r
  | [], _ => rfl
  | y :: r, x => by rw [risesB, risesB', rises_cons r y]
theorem right_chain (x : S46) (t : Int) (ht : 0 ≤ t) (R : Option Bool) :
    (if (toR x).f0 < 1 then (some false) else (if (toR x).f0 > 1073741824 then (some false) else (if (toR x).f1 < 0 then (some false) else (if (toR x).f1 > 3 then (some false) else (if (toR x).f2 < 1 then (some false) else (if (toR x).f2 > 9 then (some false) else
      (if (toR x).f4 < t then (some false) else (if (toR x).f4 ≥ 1099511627776 then (some false) else (if (toR x).f6 < 0 then (some false) else (if (toR x).f6 > 6 then (some false) else (if ((toR x).f5 == ((toR x).f6 == 0)) = true then (some false) else R)))))))))))
    = if (rightB x && decide (t ≤ x.f4)) = true then R else some false := by
  unfold toR
  simp only
  by_cases h : (rightB x && decide (t ≤ x.f4)) = true
  · rw [if_pos h]
    rw [Bool.and_eq_true, decide_eq_true_eq] at h
    obtain ⟨h, ht2⟩ := h
    unfold rightB at h
    obtain ⟨h0, h1, h2, h3, h4, h5, h6, h7, h8, h9, h10⟩ := of_decide_eq_true h
    rw [if_neg (by omega), if_neg (by omega), if_neg (by omega), if_neg (by omega), if_neg (by omega), if_neg (by omega), if_neg (by omega), if_neg (by omega), if_neg (by omega), if_neg (by omega), if_neg]
    rw [h10]; cases hx : (x.f6 == 0) <;> simp [bne, hx]
  · rw [if_neg h]
    repeat' split
    all_goals first | rfl | skip
    exfalso
    apply h
    rename_i g0 g1 g2 g3 g4 g5 g6 g7 g8 g9 g10
    rw [Bool.and_eq_true, decide_eq_true_eq]
    refine ⟨decide_eq_true ⟨by omega, by omega, by omega, by omega, by omega, by omega, by omega, by omega, by omega, by omega, ?_⟩, by omega⟩
    unfold bne
    cases hx : (x.f6 == 0) <;> cases hy : x.f5 <;> simp [hx, hy] at g10 ⊢
theorem ref_right_l (l : List S46) (hl : l.length < 4611686018427387904) (d : Nat) : ∀ (k i : Nat) (t : Int), 0 ≤ t → i + d = l.length → d < k → berthingref32_Right.l0 k (l.map toR) t i = some ((l.drop i).all rightB && risesB' t (l.drop i)) := by
  induction d with
  | zero =>
    intro k i t ht hi hk
    obtain ⟨k, rfl⟩ : ∃ m, k = m + 1 := ⟨k - 1, by omega⟩
    simp only [berthingref32_Right.l0]
    rw [if_neg (by rw [List.length_map]; omega), List.drop_of_length_le (by omega)]
    rfl
  | succ d ih =>
    intro k i t ht hi hk
    obtain ⟨k, rfl⟩ : ∃ m, k = m + 1 := ⟨k - 1, by omega⟩
    have hlt : i < l.length := by omega
    simp only [berthingref32_Right.l0]
    rw [if_pos (by rw [List.length_map]; omega), if_pos (by omega), rd35 l i hlt, right_chain l[i] t ht, List.drop_eq_getElem_cons hlt, List.all_cons, risesB']
    have hw : wrap64 ((i : Int) + 1) = ((i + 1 : Nat) : Int) := by unfold wrap64; omega
    by_cases h : (rightB l[i] && decide (t ≤ l[i].f4)) = true
    · rw [if_pos h, hw]
      rw [Bool.and_eq_true] at h
      have h2 := of_decide_eq_true h.2
      rw [show (toR l[i]).f4 = l[i].f4 from rfl, ih k (i + 1) l[i].f4 (by omega) (by omega) (by omega), h.1, h.2]
      simp
    · rw [if_neg h]
      congr 1
      cases hx : rightB l[i] <;> cases hy : decide (t ≤ l[i].f4) <;> simp [hx, hy] at h ⊢
theorem ref_right (l : List S46) (hl : l.length < 4611686018427387904) (k : Nat) (hk : l.length < k) : berthingref32_Right.f k (l.map toR) = some (okL l) := by
  unfold berthingref32_Right.f okL
  have h := ref_right_l l hl l.length k 0 0 (by omega) (by omega) hk
  rw [List.drop_zero] at h
  rw [show ((0 : Nat) : Int) = 0 from rfl] at h
  rw [h]
  congr 1
  cases l with
  | nil => rfl
  | cons x r =>
    rw [rises_cons, risesB']
    cases hx : (x :: r).all rightB with
    | false => rfl
    | true =>
      rw [List.all_cons, Bool.and_eq_true] at hx
      have h1 := hx.1
      unfold rightB at h1
      have h2 := (of_decide_eq_true h1).2.2.2.2.2.2.1
      rw [decide_eq_true h2]
      simp

theorem small_same (k : Nat) (hk : 30 ≤ k) (most : Int) (bs : List Int) (hb : ∀ x ∈ bs, 0 ≤ x ∧ x < 256) (hl : bs.length < 140737488355328) (e : Int) :
    berthingref02_Cursor_Small.f k (strOfNums bs) e most = some (strOfNums (smallOf most bs e).2.1, (smallOf most bs e).2.2, (smallOf most bs e).1) := by
  unfold berthingref02_Cursor_Small.f smallOf
  rw [(CodSame.int_same k hk bs hb hl e).1]
  simp only [Option.bind_some]
  obtain ⟨⟨v, b, e'⟩, hr⟩ : ∃ r, Cur.intOf bs e = r := ⟨_, rfl⟩
  have hbad := intOf_bad bs e
  rw [hr] at hbad ⊢
  simp only at hbad ⊢
  by_cases he : e' = 0
  · subst he
    rw [if_pos rfl]
    by_cases h1 : v < 0
    · rw [if_pos h1, if_pos ⟨rfl, .inl h1⟩]; rfl
    · rw [if_neg h1]
      by_cases h2 : v > most
      · rw [if_pos h2, if_pos ⟨rfl, .inr h2⟩]; rfl
      · rw [if_neg h2, if_neg (fun h => by rcases h.2 with h | h <;> omega)]
  · rw [if_neg he, if_neg (fun h => he h.1), hbad he]
theorem end_same (bs : List Int) (e : Int) : berthingref02_Cursor_End.f (strOfNums bs) e = some (endOf bs e) := by
  unfold berthingref02_Cursor_End.f endOf
  by_cases he : e = 0
  · rw [if_pos he]
    rw [ByteArray.toList_eq]
    cases bs with
    | nil => rw [if_pos (by simp [strOfNums]), if_neg (fun h => by simp at h)]
    | cons x r => rw [if_neg (by simp [strOfNums]), if_pos ⟨he, by simp⟩]
  · rw [if_neg he, if_neg (fun h => he h.1)]

/-- so many events more, for the reference: whether they may be is asked at the end -/
def finQ (bs : List Int) (e : Int) (out : List S46) : List S46 × Int := if endOf bs e = 0 ∧ okL out = true then (out, 0) else ([], 11)
def rqLoop : Nat → List Int → Int → Int → List S46 → List S46 × Int
  | 0, bs, e, _, out => finQ bs e out
  | n + 1, bs, e, at_, out => if e = 0 then
      let a0 := Cur.intOf bs 0
      let a1 := Cur.intOf a0.2.1 a0.2.2
      let a2 := Cur.intOf a1.2.1 a1.2.2
      let a3 := Cur.intOf a2.2.1 a2.2.2
      let a4 := Cur.intOf a3.2.1 a3.2.2
      let a5 := Cur.intOf a4.2.1 a4.2.2
      if 0 ≤ a0.1 ∧ a0.1 < 1099511627776 then rqLoop n a5.2.1 a5.2.2 (at_ + a0.1) (out ++ [evOf (at_ + a0.1) a1.1 a2.1 a3.1 a4.1 a5.1]) else ([], 11)
    else finQ bs e out
theorem okL_bad (out : List S46) (h : out.all rightB = false) : okL out = false := by unfold okL; rw [h]; rfl
theorem rq_bad : ∀ (n : Nat) (bs : List Int) (e at_ : Int) (out : List S46), out.all rightB = false → rqLoop n bs e at_ out = ([], 11)
  | 0, bs, e, _, out, h => by rw [rqLoop, finQ, if_neg (fun hh => by rw [okL_bad out h] at hh; cases hh.2)]
  | n + 1, bs, e, at_, out, h => by
    rw [rqLoop]
    split
    · simp only
      split
      · exact rq_bad n _ _ _ _ (by rw [List.all_append, h]; rfl)
      · rfl
    · rw [finQ, if_neg (fun hh => by rw [okL_bad out h] at hh; cases hh.2)]
theorem rises_snoc : ∀ (l : List S46) (x : S46), risesB l = true → (∀ y ∈ l, y.f4 ≤ x.f4) → risesB (l ++ [x]) = true
  | [], x, _, _ => rfl
  | [a], x, _, h => by simp [risesB]; exact h a (by simp)
  | a :: b :: r, x, h1, h2 => by
    rw [risesB, Bool.and_eq_true] at h1
    show (decide (a.f4 ≤ b.f4) && risesB (b :: r ++ [x])) = true
    rw [h1.1, rises_snoc (b :: r) x h1.2 (fun y hy => h2 y (List.mem_cons_of_mem _ hy))]; rfl
theorem rq_same : ∀ (n : Nat) (bs : List Int) (e at_ : Int) (out : List S46), out.all rightB = true → risesB out = true → (∀ y ∈ out, y.f4 ≤ at_) → rqLoop n bs e at_ out = rdLoop n bs e at_ out
  | 0, bs, e, at_, out, h1, h2, _ => by
    rw [rqLoop, rdLoop, finQ, finR]
    have : okL out = true := by unfold okL; rw [h1, h2]; rfl
    simp only [this, and_true]
  | n + 1, bs, e, at_, out, h1, h2, h3 => by
    rw [rqLoop, rdLoop]
    split
    · simp only
      split
      · rename_i hv
        split
        · rename_i hr
          refine rq_same n _ _ _ _ ?_ ?_ ?_
          · rw [List.all_append, h1]; simpa using hr
          · exact rises_snoc out _ h2 (fun y hy => by have := h3 y hy; show y.f4 ≤ at_ + _; omega)
          · intro y hy
            rcases List.mem_append.1 hy with hy | hy
            · have := h3 y hy; omega
            · rw [List.mem_singleton] at hy; subst hy; exact Int.le_refl _
        · rename_i hr
          refine rq_bad n _ _ _ _ ?_
          rw [List.all_append]
          simp only [List.all_cons, List.all_nil, Bool.and_true]
          rw [Bool.eq_false_iff.2 hr, Bool.and_false]
      · rfl
    · have : okL out = true := by unfold okL; rw [h1, h2]; rfl
      rw [finQ, finR]
      simp only [this, and_true]
/-- what the reference reads is what the program reads. -/
def readQ (bs : List Int) : List S46 × Int :=
  let s := smallOf 65536 bs 0
  rqLoop s.1.toNat s.2.1 s.2.2 0 []
theorem read_same (bs : List Int) : readQ bs = readL bs := by
  unfold readQ readL
  exact rq_same _ _ _ _ _ rfl rfl (fun y hy => by cases hy)
end Go.Proofs.YtdpomgfibjlehaaDoor.Tr

set_option linter.unusedVariables false
set_option linter.unusedSimpArgs false
/- berthingref32.Read: the walk. -/
namespace Go.Proofs.YtdpomgfibjlehaaDoor.Tr
open Go Go.Proofs Go.RowKit Go.Lib Go.Proofs.YtdpomgfibjlehaaDoorW.PrintWords Go.Proofs.YtdpomgfibjlehaaDoorW.PrintLast Go.Proofs.YtdpomgfibjlehaaDoorW.PrintMore Go.Proofs.YtdpomgfibjlehaaDoor.PTr Go.Proofs.YtdpomgfibjlehaaDoor.Cur

theorem grpGo_len : ∀ (bs : List Int) (i : Nat) (u : Int), (grpGo bs i u).2.2.length ≤ bs.length
  | [], _, _ => by simp [grpGo]
  | y :: r, i, u => by
    unfold grpGo
    split
    · simp
    · split
      · simp
      · have := grpGo_len r (i + 1) (put7 u y i); simp; omega
theorem intOf_len (bs : List Int) (e : Int) : (Cur.intOf bs e).2.1.length ≤ bs.length := by
  unfold Cur.intOf
  split
  · exact grpGo_len _ _ _
  · exact Nat.le_refl _
theorem smallOf_len (m : Int) (bs : List Int) (e : Int) : (smallOf m bs e).2.1.length ≤ bs.length := by
  unfold smallOf
  split
  · simp
  · exact intOf_len _ _
/-- bytes, and few enough -/
def Few (bs : List Int) : Prop := (∀ x ∈ bs, 0 ≤ x ∧ x < 256) ∧ bs.length < 140737488355328
theorem Few.int {bs : List Int} (h : Few bs) (e : Int) : Few (Cur.intOf bs e).2.1 := ⟨fun x hx => h.1 x (intOf_sub bs e x hx), Nat.lt_of_le_of_lt (intOf_len bs e) h.2⟩
theorem rint_calls (bs : List Int) (e : Int) (w : World) (h : Few bs) :
    Calls Tryd.prog 25 #[.agg #[.string (strOfNums bs), .int .i64 e]] w fun ev w' => ev = .returned (.tuple #[.agg #[.string (strOfNums (Cur.intOf bs e).2.1), .int .i64 (Cur.intOf bs e).2.2], .int .i64 (Cur.intOf bs e).1]) ∧ Below w.heap.size w w' :=
  berthingref02_Cursor_Int.calls 30 _ _ _ _ _ w (CodSame.int_same 30 (by omega) bs h.1 h.2 e).1
theorem rsmall_calls (m : Int) (bs : List Int) (e : Int) (w : World) (h : Few bs) :
    Calls Tryd.prog 24 #[.agg #[.string (strOfNums bs), .int .i64 e], .int .i64 m] w fun ev w' => ev = .returned (.tuple #[.agg #[.string (strOfNums (smallOf m bs e).2.1), .int .i64 (smallOf m bs e).2.2], .int .i64 (smallOf m bs e).1]) ∧ Below w.heap.size w w' :=
  berthingref02_Cursor_Small.calls 30 _ _ _ _ _ _ w (small_same 30 (by omega) m bs h.1 h.2 e)
theorem rend_calls (bs : List Int) (e : Int) (w : World) : Calls Tryd.prog 26 #[.agg #[.string (strOfNums bs), .int .i64 e]] w fun ev w' => ev = .returned (.int .i64 (endOf bs e)) ∧ Below w.heap.size w w' :=
  berthingref02_Cursor_End.calls _ _ _ w (end_same bs e)

/-- between two events: the cursor at C -/
structure RQ (w W : World) (C : Nat) (bs : List Int) (e : Int) (v : Value) (out : List S46) : Prop where
  cur : W.heap[C]? = some (.cells #[.string (strOfNums bs), .int .i64 e] 58 (0, 0))
  below : Below w.heap.size w W
  out : Kd.R k35 35 W w.heap.size (fun _ => True) v (out.map toR)
  hC : w.heap.size ≤ C
  few : Few bs
section
variable {w W W1 : World} {C V : Nat} {bs bs' : List Int} {e e' : Int} {v : Value} {out : List S46} {cs cs' : Array Value}
theorem RQ.bel (h : RQ w W C bs e v out) (hB : Below W.heap.size W W1) : RQ w W1 C bs e v out := ⟨blk_below h.cur hB, below_step h.below hB, Kd.R_below h.out hB, h.hC, h.few⟩
/-- in an event: the numbers' array at V -/
structure RV (w W : World) (C V : Nat) (cs : Array Value) (bs : List Int) (e : Int) (v : Value) (out : List S46) : Prop where
  q : RQ w W C bs e v out
  arr : W.heap[V]? = some (.cells cs 61 (0, 0))
  hV : C < V
theorem RQ.arr (h : RQ w W C bs e v out) (cs : Array Value) : RV w (W.alloc (.cells cs 61)) C W.heap.size cs bs e v out :=
  ⟨h.bel ((Below.refl _ W).alloc (Nat.le_refl _) _), blk_new W _, blk_lt h.cur⟩
theorem RV.step (h : RV w W C V cs bs e v out) (hB : Below W.heap.size W W1) (hf : Few bs') (i : Nat) (u : Value) (hs : cs.setIfInBounds i u = cs') :
    RV w (((W1.setCell ⟨C, 0, none⟩ (.string (strOfNums bs'))).setCell ⟨C, 1, none⟩ (.int .i64 e')).setCell ⟨V, i, none⟩ u) C V cs' bs' e' v out := by
  have h1 := h.q.hC
  have h2 := h.hV
  have q1 := h.q.bel hB
  have r1 := blk_put q1.cur 0 (.string (strOfNums bs')) (cs' := #[.string (strOfNums bs'), .int .i64 e]) rfl
  have r2 := blk_put r1 1 (.int .i64 e') (cs' := #[.string (strOfNums bs'), .int .i64 e']) rfl
  have a1 := blk_far (blk_far (blk_below h.arr hB) (by show V ≠ C; omega) (.string (strOfNums bs')) (p := ⟨C, 0, none⟩)) (by show V ≠ C; omega) (.int .i64 e') (p := ⟨C, 1, none⟩)
  refine ⟨⟨blk_far r2 (by show C ≠ V; omega) u, ?_, ?_, h1, hf⟩, blk_put a1 i u hs, h2⟩
  · exact ((q1.below.setCell (p := ⟨C, 0, none⟩) h1 _).setCell (p := ⟨C, 1, none⟩) h1 _).setCell (p := ⟨V, i, none⟩) (by show w.heap.size ≤ V; omega) _
  · refine Kd.R_set (Kd.R_set (Kd.R_set q1.out q1.cur (by decide) 0 _) r1 (by decide) 1 _) a1 (by decide) i _
theorem RV.bel (h : RV w W C V cs bs e v out) (hB : Below W.heap.size W W1) : RV w W1 C V cs bs e v out := ⟨h.q.bel hB, blk_below h.arr hB, h.hV⟩
end
theorem rqLoop_eq {n : Nat} {bs b0 b1 b2 b3 b4 b5 : List Int} {at_ v0 v1 v2 v3 v4 v5 e0 e1 e2 e3 e4 e5 : Int} {out : List S46} (h0 : Cur.intOf bs 0 = (v0, b0, e0)) (h1 : Cur.intOf b0 e0 = (v1, b1, e1)) (h2 : Cur.intOf b1 e1 = (v2, b2, e2))
    (h3 : Cur.intOf b2 e2 = (v3, b3, e3)) (h4 : Cur.intOf b3 e3 = (v4, b4, e4)) (h5 : Cur.intOf b4 e4 = (v5, b5, e5)) :
    rqLoop (n + 1) bs 0 at_ out = if 0 ≤ v0 ∧ v0 < 1099511627776 then rqLoop n b5 e5 (at_ + v0) (out ++ [evOf (at_ + v0) v1 v2 v3 v4 v5]) else ([], 11) := by
  rw [rqLoop]
  simp only [h0, h1, h2, h3, h4, h5, if_true]
theorem rqLoop_stop {n : Nat} {bs : List Int} {e at_ : Int} {out : List S46} (h : ¬(0 < n ∧ e = 0)) : rqLoop n bs e at_ out = finQ bs e out := by
  cases n with
  | zero => rfl
  | succ n => rw [rqLoop, if_neg (fun he => h ⟨by omega, he⟩)]

set_option maxRecDepth 100000 in
set_option maxHeartbeats 32000000 in
theorem rread_calls (l : List Int) (w : World) (hf : Few l) :
    Calls Tryd.prog 8 #[.string (strOfNums l)] w fun e w' => ∃ v, e = .returned (.tuple #[v, .int .i64 (readQ l).2]) ∧ Kd.R k35 35 w' w.heap.size (fun _ => True) v ((readQ l).1.map toR) ∧ Below w.heap.size w w' := by
  have hu58 := Tryd.underlying58
  have hu61 := Tryd.underlying61
  have hr := smallOf_range 65536 (by omega) l 0
  have hlen0 := smallOf_len 65536 l 0
  obtain ⟨⟨n0, c0, e0⟩, hs⟩ : ∃ r, smallOf 65536 l 0 = r := ⟨_, rfl⟩
  obtain ⟨n, hn⟩ : ∃ n : Nat, n0 = (n : Int) := ⟨n0.toNat, by rw [hs] at hr; simp only at hr; omega⟩
  subst hn
  obtain ⟨R, hR⟩ : ∃ R, rqLoop n c0 e0 0 [] = R := ⟨_, rfl⟩
  have hL : readQ l = R := by unfold readQ; rw [hs]; exact hR
  have hfc : Few c0 := ⟨fun x hx => hf.1 x (smallOf_sub 65536 l 0 x (by rw [hs]; exact hx)), by rw [hs] at hlen0; exact Nat.lt_of_le_of_lt hlen0 hf.2⟩
  rw [hs] at hr
  simp only at hr
  rw [hL]
  have hn1 : n ≤ 65536 := by omega
  have HSM := Aside0.mk (fun W => rsmall_calls 65536 l 0 W hf)
  rw [hs] at HSM
  have HFC := Aside0.mk hfc
  have HRR := Aside0.mk hR
  clear hs hfc hR hL hf hr hlen0
  go_enter Tryd.func8, Tryd.ntmps8
  go_wp2_with (go_at_call 24; refine (HSM.out _).mono ?_; rintro ev w1 ⟨rfl, hb1⟩)
  have Q0 := Aside0.mk (show RQ w (w1.alloc (.cells #[.string (strOfNums c0), .int .i64 e0] 58)) w1.heap.size c0 e0 (.slice none 0 0) [] from
    ⟨blk_new w1 _, below_step hb1 ((Below.refl _ w1).alloc (Nat.le_refl _) _), Kd.R_nil _ _ _ _ _, hb1.size, HFC.out⟩)
  obtain ⟨C, hC⟩ : ∃ C, w1.heap.size = C := ⟨_, rfl⟩
  obtain ⟨W0, hW0⟩ : ∃ W0, w1.alloc (.cells #[.string (strOfNums c0), .int .i64 e0] 58) = W0 := ⟨_, rfl⟩
  rw [hC, hW0] at Q0
  rw [hC, hW0]
  clear hC hW0 hb1 HSM
  go_loopw [6, 7, 8] (fun v6 v7 v8 wr => ∃ (i : Nat) (bs : List Int) (e at_ : Int) (out : List S46), v7 = .int .i64 at_ ∧ v8 = .int .i64 (i : Int) ∧ 0 ≤ at_ ∧ at_ ≤ (i : Int) * 1099511627776 ∧ i ≤ n ∧ out.length ≤ i ∧ rqLoop (n - i) bs e at_ out = R ∧ RQ w wr C bs e v6 out) (fun v6 v7 v8 wr => n - natV v8)
  case atStart => exact ⟨0, c0, e0, 0, [], rfl, rfl, by omega, by omega, by omega, by simp, HRR.out, Q0.out⟩
  case round =>
    obtain ⟨i, bs, e, at_, out, rfl, rfl, h0, h1, hin, hol, hg, hS⟩ := hrel
    clear Q0
    have g0 : wr.cell? ⟨C, 0, none⟩ = some (.string (strOfNums bs)) := (blk_cell hS.cur 0).trans rfl
    have g1 : wr.cell? ⟨C, 1, none⟩ = some (.int .i64 e) := (blk_cell hS.cur 1).trans rfl
    by_cases hgo : i < n ∧ e = 0
    · obtain ⟨hi, rfl⟩ := hgo
      obtain ⟨⟨v0, c1, e1⟩, h0e⟩ : ∃ r, Cur.intOf bs 0 = r := ⟨_, rfl⟩
      obtain ⟨⟨v1, c2, e2⟩, h1e⟩ : ∃ r, Cur.intOf c1 e1 = r := ⟨_, rfl⟩
      obtain ⟨⟨v2, c3, e3⟩, h2e⟩ : ∃ r, Cur.intOf c2 e2 = r := ⟨_, rfl⟩
      obtain ⟨⟨v3, c4, e4⟩, h3e⟩ : ∃ r, Cur.intOf c3 e3 = r := ⟨_, rfl⟩
      obtain ⟨⟨v4, c5, e5⟩, h4e⟩ : ∃ r, Cur.intOf c4 e4 = r := ⟨_, rfl⟩
      obtain ⟨⟨v5, c6, e6⟩, h5e⟩ : ∃ r, Cur.intOf c5 e5 = r := ⟨_, rfl⟩
      obtain ⟨m, hm⟩ : ∃ m, n - i = m + 1 := ⟨n - i - 1, by omega⟩
      rw [hm, rqLoop_eq h0e h1e h2e h3e h4e h5e] at hg
      have F0 := hS.few
      have F1 := F0.int 0
      rw [h0e] at F1
      have F2 := F1.int e1
      rw [h1e] at F2
      have F3 := F2.int e2
      rw [h2e] at F3
      have F4 := F3.int e3
      rw [h3e] at F4
      have F5 := F4.int e4
      rw [h4e] at F5
      have F6 := F5.int e5
      rw [h5e] at F6
      simp only at F1 F2 F3 F4 F5 F6
      have I0 := Aside0.mk (fun W => rint_calls bs 0 W F0)
      have I1 := Aside0.mk (fun W => rint_calls c1 e1 W F1)
      have I2 := Aside0.mk (fun W => rint_calls c2 e2 W F2)
      have I3 := Aside0.mk (fun W => rint_calls c3 e3 W F3)
      have I4 := Aside0.mk (fun W => rint_calls c4 e4 W F4)
      have I5 := Aside0.mk (fun W => rint_calls c5 e5 W F5)
      rw [h0e] at I0
      rw [h1e] at I1
      rw [h2e] at I2
      rw [h3e] at I3
      rw [h4e] at I4
      rw [h5e] at I5
      have G1 := Aside0.mk F1
      have G2 := Aside0.mk F2
      have G3 := Aside0.mk F3
      have G4 := Aside0.mk F4
      have G5 := Aside0.mk F5
      have G6 := Aside0.mk F6
      have HG := Aside0.mk hg
      have HM := Aside0.mk hm
      have S0 := Aside0.mk (hS.arr #[.int .i64 0, .int .i64 0, .int .i64 0, .int .i64 0, .int .i64 0, .int .i64 0])
      clear h0e h1e h2e h3e h4e h5e F0 F1 F2 F3 F4 F5 F6 hg hm hS
      have b1 : decide ((i : Int) < (n : Int)) = true := decide_eq_true (by omega)
      go_wp2
      have hV := S0.out.hV
      have HSZ := Aside0.mk hV
      obtain ⟨V, hVV⟩ : ∃ V, wr.heap.size = V := ⟨_, rfl⟩
      obtain ⟨W, hW⟩ : ∃ W, wr.alloc (.cells #[.int .i64 0, .int .i64 0, .int .i64 0, .int .i64 0, .int .i64 0, .int .i64 0] 61) = W := ⟨_, rfl⟩
      rw [hVV, hW] at S0
      rw [hVV, hW]
      clear hVV hW hV HSZ g0 g1
      refine wp_loop_rounds 7 ?_
      rw [rounds_succ]
      have a0 : W.cell? ⟨C, 0, none⟩ = some (.string (strOfNums bs)) := (blk_cell S0.out.q.cur 0).trans rfl
      have a1 : W.cell? ⟨C, 1, none⟩ = some (.int .i64 0) := (blk_cell S0.out.q.cur 1).trans rfl
      go_wp2_with (go_at_call 25; with_reducible refine (I0.out _).mono ?_; rintro ev x0 ⟨rfl, hb⟩
                   have z := S0.out.bel hb
                   have z0 : x0.cell? ⟨C, 0, none⟩ = some (.string (strOfNums bs)) := (blk_cell z.q.cur 0).trans rfl
                   have z1 : x0.cell? ⟨C, 1, none⟩ = some (.int .i64 0) := (blk_cell z.q.cur 1).trans rfl
                   have zf0 := blk_frozen z.q.cur 0
                   have zf1 := blk_frozen z.q.cur 1
                   have y0 : x0.cell? ⟨V, 0, none⟩ = some (.int .i64 0) := (blk_cell z.arr 0).trans rfl
                   have yf := blk_frozen z.arr 0
                   have hne : ¬ V = C := by have := z.hV; omega
                   clear z)
      have S1 := Aside0.mk (S0.out.step (bs' := c1) (e' := e1) hb G1.out 0 (.int .i64 v0) (cs' := #[.int .i64 v0, .int .i64 0, .int .i64 0, .int .i64 0, .int .i64 0, .int .i64 0]) rfl)
      clear a0 a1 z0 z1 zf0 zf1 y0 yf hne hb S0
      generalize ((x0.setCell ⟨C, 0, none⟩ (.string (strOfNums c1))).setCell ⟨C, 1, none⟩ (.int .i64 e1)).setCell ⟨V, 0, none⟩ (.int .i64 v0) = W1 at S1 ⊢
      rw [rounds_succ]
      have a0 : W1.cell? ⟨C, 0, none⟩ = some (.string (strOfNums c1)) := (blk_cell S1.out.q.cur 0).trans rfl
      have a1 : W1.cell? ⟨C, 1, none⟩ = some (.int .i64 e1) := (blk_cell S1.out.q.cur 1).trans rfl
      go_wp2_with (go_at_call 25; with_reducible refine (I1.out _).mono ?_; rintro ev x1 ⟨rfl, hb⟩
                   have z := S1.out.bel hb
                   have z0 : x1.cell? ⟨C, 0, none⟩ = some (.string (strOfNums c1)) := (blk_cell z.q.cur 0).trans rfl
                   have z1 : x1.cell? ⟨C, 1, none⟩ = some (.int .i64 e1) := (blk_cell z.q.cur 1).trans rfl
                   have zf0 := blk_frozen z.q.cur 0
                   have zf1 := blk_frozen z.q.cur 1
                   have y0 : x1.cell? ⟨V, 1, none⟩ = some (.int .i64 0) := (blk_cell z.arr 1).trans rfl
                   have yf := blk_frozen z.arr 1
                   have hne : ¬ V = C := by have := z.hV; omega
                   clear z)
      have S2 := Aside0.mk (S1.out.step (bs' := c2) (e' := e2) hb G2.out 1 (.int .i64 v1) (cs' := #[.int .i64 v0, .int .i64 v1, .int .i64 0, .int .i64 0, .int .i64 0, .int .i64 0]) rfl)
      clear a0 a1 z0 z1 zf0 zf1 y0 yf hne hb S1
      generalize ((x1.setCell ⟨C, 0, none⟩ (.string (strOfNums c2))).setCell ⟨C, 1, none⟩ (.int .i64 e2)).setCell ⟨V, 1, none⟩ (.int .i64 v1) = W2 at S2 ⊢
      rw [rounds_succ]
      have a0 : W2.cell? ⟨C, 0, none⟩ = some (.string (strOfNums c2)) := (blk_cell S2.out.q.cur 0).trans rfl
      have a1 : W2.cell? ⟨C, 1, none⟩ = some (.int .i64 e2) := (blk_cell S2.out.q.cur 1).trans rfl
      go_wp2_with (go_at_call 25; with_reducible refine (I2.out _).mono ?_; rintro ev x2 ⟨rfl, hb⟩
                   have z := S2.out.bel hb
                   have z0 : x2.cell? ⟨C, 0, none⟩ = some (.string (strOfNums c2)) := (blk_cell z.q.cur 0).trans rfl
                   have z1 : x2.cell? ⟨C, 1, none⟩ = some (.int .i64 e2) := (blk_cell z.q.cur 1).trans rfl
                   have zf0 := blk_frozen z.q.cur 0
                   have zf1 := blk_frozen z.q.cur 1
                   have y0 : x2.cell? ⟨V, 2, none⟩ = some (.int .i64 0) := (blk_cell z.arr 2).trans rfl
                   have yf := blk_frozen z.arr 2
                   have hne : ¬ V = C := by have := z.hV; omega
                   clear z)
      have S3 := Aside0.mk (S2.out.step (bs' := c3) (e' := e3) hb G3.out 2 (.int .i64 v2) (cs' := #[.int .i64 v0, .int .i64 v1, .int .i64 v2, .int .i64 0, .int .i64 0, .int .i64 0]) rfl)
      clear a0 a1 z0 z1 zf0 zf1 y0 yf hne hb S2
      generalize ((x2.setCell ⟨C, 0, none⟩ (.string (strOfNums c3))).setCell ⟨C, 1, none⟩ (.int .i64 e3)).setCell ⟨V, 2, none⟩ (.int .i64 v2) = W3 at S3 ⊢
      rw [rounds_succ]
      have a0 : W3.cell? ⟨C, 0, none⟩ = some (.string (strOfNums c3)) := (blk_cell S3.out.q.cur 0).trans rfl
      have a1 : W3.cell? ⟨C, 1, none⟩ = some (.int .i64 e3) := (blk_cell S3.out.q.cur 1).trans rfl
      go_wp2_with (go_at_call 25; with_reducible refine (I3.out _).mono ?_; rintro ev x3 ⟨rfl, hb⟩
                   have z := S3.out.bel hb
                   have z0 : x3.cell? ⟨C, 0, none⟩ = some (.string (strOfNums c3)) := (blk_cell z.q.cur 0).trans rfl
                   have z1 : x3.cell? ⟨C, 1, none⟩ = some (.int .i64 e3) := (blk_cell z.q.cur 1).trans rfl
                   have zf0 := blk_frozen z.q.cur 0
                   have zf1 := blk_frozen z.q.cur 1
                   have y0 : x3.cell? ⟨V, 3, none⟩ = some (.int .i64 0) := (blk_cell z.arr 3).trans rfl
                   have yf := blk_frozen z.arr 3
                   have hne : ¬ V = C := by have := z.hV; omega
                   clear z)
      have S4 := Aside0.mk (S3.out.step (bs' := c4) (e' := e4) hb G4.out 3 (.int .i64 v3) (cs' := #[.int .i64 v0, .int .i64 v1, .int .i64 v2, .int .i64 v3, .int .i64 0, .int .i64 0]) rfl)
      clear a0 a1 z0 z1 zf0 zf1 y0 yf hne hb S3
      generalize ((x3.setCell ⟨C, 0, none⟩ (.string (strOfNums c4))).setCell ⟨C, 1, none⟩ (.int .i64 e4)).setCell ⟨V, 3, none⟩ (.int .i64 v3) = W4 at S4 ⊢
      rw [rounds_succ]
      have a0 : W4.cell? ⟨C, 0, none⟩ = some (.string (strOfNums c4)) := (blk_cell S4.out.q.cur 0).trans rfl
      have a1 : W4.cell? ⟨C, 1, none⟩ = some (.int .i64 e4) := (blk_cell S4.out.q.cur 1).trans rfl
      go_wp2_with (go_at_call 25; with_reducible refine (I4.out _).mono ?_; rintro ev x4 ⟨rfl, hb⟩
                   have z := S4.out.bel hb
                   have z0 : x4.cell? ⟨C, 0, none⟩ = some (.string (strOfNums c4)) := (blk_cell z.q.cur 0).trans rfl
                   have z1 : x4.cell? ⟨C, 1, none⟩ = some (.int .i64 e4) := (blk_cell z.q.cur 1).trans rfl
                   have zf0 := blk_frozen z.q.cur 0
                   have zf1 := blk_frozen z.q.cur 1
                   have y0 : x4.cell? ⟨V, 4, none⟩ = some (.int .i64 0) := (blk_cell z.arr 4).trans rfl
                   have yf := blk_frozen z.arr 4
                   have hne : ¬ V = C := by have := z.hV; omega
                   clear z)
      have S5 := Aside0.mk (S4.out.step (bs' := c5) (e' := e5) hb G5.out 4 (.int .i64 v4) (cs' := #[.int .i64 v0, .int .i64 v1, .int .i64 v2, .int .i64 v3, .int .i64 v4, .int .i64 0]) rfl)
      clear a0 a1 z0 z1 zf0 zf1 y0 yf hne hb S4
      generalize ((x4.setCell ⟨C, 0, none⟩ (.string (strOfNums c5))).setCell ⟨C, 1, none⟩ (.int .i64 e5)).setCell ⟨V, 4, none⟩ (.int .i64 v4) = W5 at S5 ⊢
      rw [rounds_succ]
      have a0 : W5.cell? ⟨C, 0, none⟩ = some (.string (strOfNums c5)) := (blk_cell S5.out.q.cur 0).trans rfl
      have a1 : W5.cell? ⟨C, 1, none⟩ = some (.int .i64 e5) := (blk_cell S5.out.q.cur 1).trans rfl
      go_wp2_with (go_at_call 25; with_reducible refine (I5.out _).mono ?_; rintro ev x5 ⟨rfl, hb⟩
                   have z := S5.out.bel hb
                   have z0 : x5.cell? ⟨C, 0, none⟩ = some (.string (strOfNums c5)) := (blk_cell z.q.cur 0).trans rfl
                   have z1 : x5.cell? ⟨C, 1, none⟩ = some (.int .i64 e5) := (blk_cell z.q.cur 1).trans rfl
                   have zf0 := blk_frozen z.q.cur 0
                   have zf1 := blk_frozen z.q.cur 1
                   have y0 : x5.cell? ⟨V, 5, none⟩ = some (.int .i64 0) := (blk_cell z.arr 5).trans rfl
                   have yf := blk_frozen z.arr 5
                   have hne : ¬ V = C := by have := z.hV; omega
                   clear z)
      have S6 := Aside0.mk (S5.out.step (bs' := c6) (e' := e6) hb G6.out 5 (.int .i64 v5) (cs' := #[.int .i64 v0, .int .i64 v1, .int .i64 v2, .int .i64 v3, .int .i64 v4, .int .i64 v5]) rfl)
      clear a0 a1 z0 z1 zf0 zf1 y0 yf hne hb S5
      generalize ((x5.setCell ⟨C, 0, none⟩ (.string (strOfNums c6))).setCell ⟨C, 1, none⟩ (.int .i64 e6)).setCell ⟨V, 5, none⟩ (.int .i64 v5) = W6 at S6 ⊢
      rw [rounds_succ]
      have q0 : W6.cell? ⟨V, 0, none⟩ = some (.int .i64 v0) := (blk_cell S6.out.arr 0).trans rfl
      have q1 : W6.cell? ⟨V, 1, none⟩ = some (.int .i64 v1) := (blk_cell S6.out.arr 1).trans rfl
      have q2 : W6.cell? ⟨V, 2, none⟩ = some (.int .i64 v2) := (blk_cell S6.out.arr 2).trans rfl
      have q3 : W6.cell? ⟨V, 3, none⟩ = some (.int .i64 v3) := (blk_cell S6.out.arr 3).trans rfl
      have q4 : W6.cell? ⟨V, 4, none⟩ = some (.int .i64 v4) := (blk_cell S6.out.arr 4).trans rfl
      have q5 : W6.cell? ⟨V, 5, none⟩ = some (.int .i64 v5) := (blk_cell S6.out.arr 5).trans rfl
      by_cases hv : 0 ≤ v0 ∧ v0 < 1099511627776
      · have hg := HG.out
        rw [if_pos hv] at hg
        have HG2 := Aside0.mk hg
        obtain ⟨hv0, hv1⟩ := hv
        have b2 : decide (v0 < 0) = false := decide_eq_false (by omega)
        have b3 : decide (v0 ≥ 1099511627776) = false := decide_eq_false (by omega)
        have hwr : IntKind.i64.wrap (at_ + v0) = at_ + v0 := by rw [IntKind.wrap_i64]; omega
        clear hg HG
        go_wp2_with (first
          | ((with_reducible refine gate_builtin (b := .append) (xs := #[.tmp 50, .tmp 67]) rfl ?_); at_builtin
             refine Kd.R_append k35 (w0 := w) w.heap.size rfl (.tmp 50) (.tmp 67) 27 35 (.agg #[(.int .i64 0), (.int .i64 0), (.int .i64 0), (.int .u64 0), (.int .i64 0), (.bool false), (.int .i64 0)]) 56 rfl Tryd.underlying27 info35 rfl (by decide) (by omega) u6 (out.map toR) (toR (evOf (at_ + v0) v1 v2 v3 v4 v5)) [.int .i64 v1, .int .i64 v2, .int .i64 v3, .int .u64 (IntKind.u64.wrap v4), .int .i64 (at_ + v0), .bool (v5 != 0), .int .i64 v5] (fun _ => True) (fun _ => False) rfl (by first | (go_simp; done) | (go_simp; rfl)) ?aP (fun _ hk => hk.elim) ?aF ?aO ?aB ?aS ?aL ?_
             (case aP => exact k35_mkM _ _ _ (toR (evOf (at_ + v0) v1 v2 v3 v4 v5)))
             (case aF => exact fun k hk => trivial)
             (case aO => exact S6.out.q.out)
             (case aB => exact S6.out.q.below)
             (case aS => exact S6.out.q.below.size)
             (case aL => rw [List.length_map]; omega)
             intro v6 w10 hR10 hB10 hg10 hat10))
        go_roundw
        case rel =>
          have hb10 : Below W6.heap.size W6 w10 ∨ True := .inr trivial
          have hcur : w10.heap[C]? = some (.cells #[.string (strOfNums c6), .int .i64 e6] 58 (0, 0)) := by
            have hc := S6.out.q.cur
            refine (hg10.block C (blk_lt hc) (fun he => ?_)).trans hc
            exact Kd.R_ne S6.out.q.out hc (by decide) he
          refine ⟨i + 1, c6, e6, at_ + v0, out ++ [evOf (at_ + v0) v1 v2 v3 v4 v5], rfl, by go_num, by omega, by omega, by omega, by rw [List.length_append, List.length_singleton]; omega, ?_, ?_⟩
          · have := HM.out
            rw [show n - (i + 1) = m by omega]; exact HG2.out
          · exact ⟨hcur, hB10, by rw [List.map_append]; exact hR10, S6.out.q.hC, G6.out⟩
        case measure => simp [natV]; omega
      · have hg := HG.out
        rw [if_neg hv] at hg
        subst hg
        by_cases h0 : v0 < 0
        · have b2 : decide (v0 < 0) = true := decide_eq_true h0
          go_wp2
          go_ret2
          exact ⟨_, rfl, Kd.R_nil _ _ _ _ _, S6.out.q.below⟩
        · have b2 : decide (v0 < 0) = false := decide_eq_false h0
          have b3 : decide (v0 ≥ 1099511627776) = true := decide_eq_true (by omega)
          go_wp2
          go_ret2
          exact ⟨_, rfl, Kd.R_nil _ _ _ _ _, S6.out.q.below⟩
    · have hf := (rqLoop_stop (fun h => hgo ⟨by omega, h.2⟩)).symm.trans hg
      obtain ⟨f, hff⟩ : ∃ f, endOf bs e = f := ⟨_, rfl⟩
      unfold finQ at hf
      rw [hff] at hf
      have HE := Aside0.mk (fun W => rend_calls bs e W)
      rw [hff] at HE
      have HN := Aside0.mk hgo
      clear hff hgo hg
      by_cases hn : i < n
      · have he : e ≠ 0 := fun he => HN.out ⟨hn, he⟩
        have b1 : decide ((i : Int) < (n : Int)) = true := decide_eq_true (by omega)
        have b2 : (e == 0) = false := by simpa using he
        clear he
        by_cases hf0 : f = 0
        · have b3 : (f != 0) = false := by simp [hf0]
          have hrt := ref_right out (by omega) (out.length + 1) (by omega)
          obtain ⟨g, hg⟩ : ∃ g, okL out = g := ⟨_, rfl⟩
          obtain ⟨xs, hxs⟩ : ∃ xs, out.map toR = xs := ⟨_, rfl⟩
          have hSo := hS.out
          rw [hxs] at hSo hrt
          rw [hg] at hrt hf
          obtain ⟨Ao, co, rfl, hlo, hCo⟩ := Kd.R_reads hSo
          have HRT := Aside0.mk hrt
          have HX := Aside0.mk hxs
          have HSO := Aside0.mk hSo
          clear hrt hxs hSo
          have HCO := Aside0.mk hCo
          have HS := Aside0.mk hS
          have HB4 := Aside0.mk (hlo)
          have hbw := Aside0.mk hS.below
          clear hg hCo hlo hS
          cases g with
          | true =>
            rw [if_pos ⟨hf0, rfl⟩] at hf
            subst hf
            clear hf0
            go_wp2_with (first
              | (go_at_call 26; refine (HE.out _).mono ?_; rintro ev w4 ⟨rfl, hb4⟩)
              | (go_at_call 27; refine (berthingref32_Right.calls _ Ao co xs true _ (Kd.C_below HCO.out hb4) HB4.out HRT.out).mono ?_; rintro ev w5 ⟨rfl, hb5⟩))
            go_ret2
            exact ⟨_, rfl, by rw [HX.out]; exact Kd.R_below (Kd.R_below HSO.out hb4) hb5, below_step (below_step hbw.out hb4) hb5⟩
          | false =>
            rw [if_neg (by simp)] at hf
            subst hf
            clear hf0
            go_wp2_with (first
              | (go_at_call 26; refine (HE.out _).mono ?_; rintro ev w4 ⟨rfl, hb4⟩)
              | (go_at_call 27; refine (berthingref32_Right.calls _ Ao co xs false _ (Kd.C_below HCO.out hb4) HB4.out HRT.out).mono ?_; rintro ev w5 ⟨rfl, hb5⟩))
            go_ret2
            exact ⟨_, rfl, Kd.R_nil _ _ _ _ _, below_step (below_step hbw.out hb4) hb5⟩
        · have b3 : (f != 0) = true := by simp [hf0]
          rw [if_neg (fun h => hf0 h.1)] at hf
          subst hf
          have HS := Aside0.mk hS
          clear hf0 hS
          go_wp2_with (go_at_call 26; refine (HE.out _).mono ?_; rintro ev w4 ⟨rfl, hb4⟩)
          go_ret2
          exact ⟨_, rfl, Kd.R_nil _ _ _ _ _, below_step HS.out.below hb4⟩
      · have b1 : decide ((i : Int) < (n : Int)) = false := decide_eq_false (by omega)
        by_cases hf0 : f = 0
        · have b3 : (f != 0) = false := by simp [hf0]
          have hrt := ref_right out (by omega) (out.length + 1) (by omega)
          obtain ⟨g, hg⟩ : ∃ g, okL out = g := ⟨_, rfl⟩
          obtain ⟨xs, hxs⟩ : ∃ xs, out.map toR = xs := ⟨_, rfl⟩
          have hSo := hS.out
          rw [hxs] at hSo hrt
          rw [hg] at hrt hf
          obtain ⟨Ao, co, rfl, hlo, hCo⟩ := Kd.R_reads hSo
          have HRT := Aside0.mk hrt
          have HX := Aside0.mk hxs
          have HSO := Aside0.mk hSo
          clear hrt hxs hSo
          have HCO := Aside0.mk hCo
          have HS := Aside0.mk hS
          have HB4 := Aside0.mk (hlo)
          have hbw := Aside0.mk hS.below
          clear hg hCo hlo hS
          cases g with
          | true =>
            rw [if_pos ⟨hf0, rfl⟩] at hf
            subst hf
            clear hf0
            go_wp2_with (first
              | (go_at_call 26; refine (HE.out _).mono ?_; rintro ev w4 ⟨rfl, hb4⟩)
              | (go_at_call 27; refine (berthingref32_Right.calls _ Ao co xs true _ (Kd.C_below HCO.out hb4) HB4.out HRT.out).mono ?_; rintro ev w5 ⟨rfl, hb5⟩))
            go_ret2
            exact ⟨_, rfl, by rw [HX.out]; exact Kd.R_below (Kd.R_below HSO.out hb4) hb5, below_step (below_step hbw.out hb4) hb5⟩
          | false =>
            rw [if_neg (by simp)] at hf
            subst hf
            clear hf0
            go_wp2_with (first
              | (go_at_call 26; refine (HE.out _).mono ?_; rintro ev w4 ⟨rfl, hb4⟩)
              | (go_at_call 27; refine (berthingref32_Right.calls _ Ao co xs false _ (Kd.C_below HCO.out hb4) HB4.out HRT.out).mono ?_; rintro ev w5 ⟨rfl, hb5⟩))
            go_ret2
            exact ⟨_, rfl, Kd.R_nil _ _ _ _ _, below_step (below_step hbw.out hb4) hb5⟩
        · have b3 : (f != 0) = true := by simp [hf0]
          rw [if_neg (fun h => hf0 h.1)] at hf
          subst hf
          have HS := Aside0.mk hS
          clear hf0 hS
          go_wp2_with (go_at_call 26; refine (HE.out _).mono ?_; rintro ev w4 ⟨rfl, hb4⟩)
          go_ret2
          exact ⟨_, rfl, Kd.R_nil _ _ _ _ _, below_step HS.out.below hb4⟩
end Go.Proofs.YtdpomgfibjlehaaDoor.Tr

set_option linter.unusedVariables false
set_option linter.unusedSimpArgs false
namespace Go.Proofs.YtdpomgfibjlehaaDoor.PTr
open Go Go.Proofs Go.RowKit Go.Proofs.YtdpomgfibjlehaaDoorW.PrintWords Go.Proofs.YtdpomgfibjlehaaDoorW.PrintLast Go.Proofs.YtdpomgfibjlehaaDoorW.PrintMore
/-- the bytes of a text, as numbers -/
def numsS (s : ByteArray) : List Int := s.data.toList.map fun b => (b.toNat : Int)
theorem strOf_numsS (s : ByteArray) : strOfNums (numsS s) = s := by
  unfold strOfNums numsS
  rw [List.map_map]
  have : ((fun x : Int => UInt8.ofNat x.toNat) ∘ fun b : UInt8 => (b.toNat : Int)) = id := by funext b; simp
  rw [this, List.map_id]
theorem numsS_strOf (l : List Int) (h : ∀ x ∈ l, 0 ≤ x ∧ x < 256) : numsS (strOfNums l) = l := by
  unfold strOfNums numsS
  simp only [List.map_map]
  conv => rhs; rw [← List.map_id l]
  refine List.map_congr_left fun x hx => ?_
  have := h x hx
  simp
  omega
theorem numsS_few (s : ByteArray) (h : s.size < 140737488355328) : Tr.Few (numsS s) := by
  have hl : (numsS s).length = s.size := by unfold numsS; rw [List.length_map]; exact Array.length_toList
  refine ⟨fun x hx => ?_, by rw [hl]; exact h⟩
  unfold numsS at hx
  obtain ⟨b, _, rfl⟩ := List.mem_map.1 hx
  have := b.toNat_lt
  omega
/-- the reference's Read, for the print -/
def berthingref32_Read.f (s : ByteArray) : Option (List S35 × Int) := if s.size < 140737488355328 then some ((Tr.readQ (numsS s)).1.map Tr.toR, (Tr.readQ (numsS s)).2) else none
theorem berthingref32_Read.calls (a0 : ByteArray) (r0 : List S35) (r1 : Int) (w : World) (h : berthingref32_Read.f a0 = some (r0, r1)) :
    Calls Tryd.prog 8 #[.string a0] w fun e w' => ∃ v0_ : Value, e = .returned (.tuple #[v0_, .int .i64 r1]) ∧ Kd.R k35 35 w' w.heap.size (fun _ => True) v0_ r0 ∧ Below w.heap.size w w' := by
  unfold berthingref32_Read.f at h
  split at h
  · rename_i hn
    have h1 := Option.some.inj h
    have := Tr.rread_calls (numsS a0) w (numsS_few a0 hn)
    rw [strOf_numsS] at this
    injection h1 with h2 h3
    rw [h2, h3] at this
    exact this
  · cases h
end Go.Proofs.YtdpomgfibjlehaaDoor.PTr
