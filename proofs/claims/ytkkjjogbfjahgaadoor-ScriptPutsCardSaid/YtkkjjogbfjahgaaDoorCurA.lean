/- A part of the proofs over script (CurA): contracts of the program's functions and plain laws. Conditions: those that each theorem states. -/
import Derived.Test.YtkkjjogbfjahgaaDoorPScx12
import Derived.WalkSpells
import Derived.LaidEql
import Derived.Stop.Asserts
import Derived.Stop.IfaceNil
set_option linter.unusedVariables false
set_option linter.unusedSimpArgs false
namespace Go.Proofs.YtkkjjogbfjahgaaDoor.Cur
open Go Go.Proofs Go.RowKit Go.Proofs.YtkkjjogbfjahgaaDoorW.PrintWords

/-- what is wrong, as the cursor holds it: 0: nothing -/
def badV (e : Int) : Value := if e = 0 then .nilIface else .iface 24 (.int .i64 e)

theorem isIerror : Tryd.prog.isIface 74 = true := by kernel_rfl

set_option maxRecDepth 100000 in
set_option maxHeartbeats 1000000 in
theorem fine_calls (p : Nat) (s : Value) (e : Int) (w : World) (hp : w.heap[p]? = some (.cells #[s, badV e] 76 (0, 0))) :
    Calls Tryd.prog 53 #[.pointer (some ⟨p, 0, none⟩)] w fun ev w' => ev = .returned (.bool (decide (e = 0))) ∧ w' = w := by
  have hI := isIerror
  by_cases h0 : e = 0
  · subst h0
    have hc1 : w.cell? ⟨p, 1, none⟩ = some .nilIface := (blk_cell hp 1).trans rfl
    clear hp
    go_enter Tryd.func53, Tryd.ntmps53
    go_wp2
    go_ret
    exact ⟨rfl, rfl⟩
  · have hc1 : w.cell? ⟨p, 1, none⟩ = some (.iface 24 (.int .i64 e)) := by rw [(blk_cell hp 1).trans rfl]; simp [badV, h0]
    have hE := run_eql_iface_nil (P := Tryd.prog) 74 hI 24 (.int .i64 e) (w := w)
    clear hp
    go_enter Tryd.func53, Tryd.ntmps53
    go_wp2
    go_ret
    exact ⟨by simp [h0], rfl⟩

theorem bs_set {s b u : Value} : (#[s, b] : Array Value).setIfInBounds 0 u = #[u, b] := rfl

set_option maxRecDepth 100000 in
set_option maxHeartbeats 1000000 in
theorem fail_calls (p : Nat) (s : Value) (e : Int) (w : World) (hp : w.heap[p]? = some (.cells #[s, badV 0] 76 (0, 0))) :
    Calls Tryd.prog 54 #[.pointer (some ⟨p, 0, none⟩), .int .i64 e] w fun ev w' => ev = .returned (.tuple #[]) ∧ w' = (w.setCell ⟨p, 0, none⟩ (.slice none 0 0)).setCell ⟨p, 1, none⟩ (.iface 24 (.int .i64 e)) := by
  have hc0 : w.cell? ⟨p, 0, none⟩ = some s := (blk_cell hp 0).trans rfl
  have hc1 : w.cell? ⟨p, 1, none⟩ = some .nilIface := (blk_cell hp 1).trans rfl
  have hf0 := blk_frozen hp 0
  have hf1 := blk_frozen hp 1
  go_enter Tryd.func54, Tryd.ntmps54
  go_wp2
  go_end0
  exact ⟨rfl, rfl⟩

/-- one group of bits, behind i others: what is wrong (0: nothing), the number, the bytes that are left -/
def put7 (u : Int) (x : Int) (i : Nat) : Int := Go.bits .or .u64 u (IntKind.u64.wrap (IntKind.u64.wrap (Go.bits .andNot .u8 x 128) * 2 ^ (7 * i)))
def grpGo : List Int → Nat → Int → Int × Int × List Int
  | [], _, _ => (10, 0, [])
  | x :: r, i, u => if (i = 9 ∧ 1 < x) ∨ (x = 0 ∧ 0 < i) then (11, 0, []) else if x < 128 then (0, put7 u x i, r) else grpGo r (i + 1) (put7 u x i)

def natOf : Value → Nat
  | .int _ i => i.toNat
  | _ => 0

/-- the cursor at p: the bytes that are left, and what is wrong -/
def CurIs (w : World) (p : Nat) (bs : List Int) (e : Int) : Prop :=
  ∃ A c, w.heap[p]? = some (.cells #[.slice A bs.length c, badV e] 76 (0, 0)) ∧ Kd.C (Kd.int .u8) w A bs.length bs ∧ bs.length ≤ c ∧ ∀ a, A = some a → a.block < p

/-- nothing but the block p is turned -/
structure Only (p : Nat) (w w' : World) : Prop where
  os : w'.os = w.os
  tape : w'.tape = w.tape
  output : w'.output = w.output
  size : w'.heap.size = w.heap.size
  block : ∀ k, k ≠ p → w'.heap[k]? = w.heap[k]?

theorem Only.refl (p : Nat) (w : World) : Only p w w := ⟨rfl, rfl, rfl, rfl, fun _ _ => rfl⟩
theorem Only.trans {p : Nat} {a b c : World} (h : Only p a b) (k : Only p b c) : Only p a c :=
  ⟨k.os.trans h.os, k.tape.trans h.tape, k.output.trans h.output, k.size.trans h.size, fun i hi => (k.block i hi).trans (h.block i hi)⟩
theorem Only.set (p i : Nat) (w : World) (v : Value) : Only p w (w.setCell ⟨p, i, none⟩ v) :=
  let h := (Below.refl 0 w).setCell (p := ⟨p, i, none⟩) (Nat.zero_le _) v
  ⟨h.os, h.tape, h.output, by simp [World.setCell], fun k hk => Below.heap_setCell w ⟨p, i, none⟩ v k hk⟩
theorem Only.below {p n : Nat} {w w' : World} (h : Only p w w') (hn : n ≤ p) : Below n w w' :=
  ⟨h.os, h.tape, h.output, Nat.le_of_eq h.size.symm, fun k hk => h.block k (by omega)⟩

theorem add_block (a : Addr) (n : Nat) : (a.add n).block = a.block := by unfold Addr.add; split <;> rfl
theorem C_only {p : Nat} {w w' : World} {A : Option Addr} {bs : List Int} (hC : Kd.C (Kd.int .u8) w A bs.length bs) (ho : Only p w w') (ha : ∀ a, A = some a → a.block ≠ p) : Kd.C (Kd.int .u8) w' A bs.length bs := by
  obtain ⟨h1, h2, h3⟩ := hC
  refine ⟨h1, h2, fun h0 => ?_⟩
  obtain ⟨ad, e, hc⟩ := h3 h0
  refine ⟨ad, e, fun j x hx => ?_⟩
  obtain ⟨cs, q1, q2, q3⟩ := hc j x hx
  refine ⟨cs, q1, q2, fun i u hu => ?_⟩
  rw [← q3 i u hu]
  exact World.cell?_of_block (w := w) (ho.block _ (by rw [add_block]; exact ha ad e))

theorem fail_cur {w : World} {p : Nat} {s : Value} (hp : w.heap[p]? = some (.cells #[s, badV 0] 76 (0, 0))) :
    (∀ e, e ≠ 0 → CurIs ((w.setCell ⟨p, 0, none⟩ (.slice none 0 0)).setCell ⟨p, 1, none⟩ (.iface 24 (.int .i64 e))) p [] e) ∧
    ∀ e, Only p w ((w.setCell ⟨p, 0, none⟩ (.slice none 0 0)).setCell ⟨p, 1, none⟩ (.iface 24 (.int .i64 e))) := by
  refine ⟨fun e he => ⟨none, 0, ?_, Kd.C_nil _ _, Nat.le_refl _, fun a h => by cases h⟩, fun e => (Only.set p 0 w _).trans (Only.set p 1 _ _)⟩
  have h1 := blk_put hp 0 (.slice none 0 0) (cs' := #[.slice none 0 0, badV 0]) rfl
  have h2 := blk_put h1 1 (.iface 24 (.int .i64 e)) (cs' := #[.slice none 0 0, .iface 24 (.int .i64 e)]) rfl
  rw [h2]; simp [badV, he]

theorem slice_cur {w : World} {p m c : Nat} {A : Option Addr} {bs : List Int} (hp : w.heap[p]? = some (.cells #[.slice A bs.length c, badV 0] 76 (0, 0)))
    (hC : Kd.C (Kd.int .u8) w A bs.length bs) (hc : bs.length ≤ c) (hA : ∀ a, A = some a → a.block < p) (hm : m ≤ bs.length) (A' : Option Addr) (hA' : A' = if c = m then A else A.map (·.add m)) :
    CurIs (w.setCell ⟨p, 0, none⟩ (.slice A' (bs.length - m) (c - m))) p (bs.drop m) 0 ∧ Only p w (w.setCell ⟨p, 0, none⟩ (.slice A' (bs.length - m) (c - m))) := by
  subst hA'
  have hD := Kd.C_drop (m := m) hC hm hc
  rw [show (Kd.int IntKind.u8).sz = 1 from rfl, Nat.mul_one] at hD
  have ho := Only.set p 0 w (.slice (if c = m then A else A.map (·.add m)) (bs.length - m) (c - m))
  have ha : ∀ a, (if c = m then A else A.map (·.add m)) = some a → a.block < p := by
    intro a h
    split at h
    · exact hA a h
    · cases A with
      | none => cases h
      | some b => simp at h; subst h; rw [add_block]; exact hA b rfl
  refine ⟨⟨_, c - m, ?_, C_only hD ho (fun a h => Nat.ne_of_lt (ha a h)), by rw [List.length_drop]; omega, ha⟩, ho⟩
  rw [List.length_drop]
  exact blk_put hp 0 _ rfl

set_option maxRecDepth 100000 in
set_option maxHeartbeats 4000000 in
theorem group_calls (p : Nat) (bs : List Int) (w : World) (hcur : CurIs w p bs 0) (hb : ∀ x ∈ bs, 0 ≤ x ∧ x < 256) :
    Calls Tryd.prog 58 #[.pointer (some ⟨p, 0, none⟩)] w fun ev w' => ev = .returned (.int .u64 (grpGo bs 0 0).2.1) ∧ CurIs w' p (grpGo bs 0 0).2.2 (grpGo bs 0 0).1 ∧ Only p w w' := by
  obtain ⟨A, c, hp, hC, hc, hAp⟩ := hcur
  have hc0 : w.cell? ⟨p, 0, none⟩ = some (.slice A bs.length c) := (blk_cell hp 0).trans rfl
  have hf0 := blk_frozen hp 0
  go_enter Tryd.func58, Tryd.ntmps58
  go_wp2_with (go_at_call 53; refine (fine_calls p _ 0 w hp).mono ?_; rintro e w' ⟨rfl, hw'⟩; rw [hw']; clear hw')
  go_loopw [3, 15] (fun v3 v15 wr => ∃ (i : Nat) (u : Int), v3 = .int .u64 u ∧ v15 = .int .i64 (i : Int) ∧ w = wr ∧ i ≤ bs.length ∧ i ≤ 9 ∧ grpGo bs 0 0 = grpGo (bs.drop i) i u)
    (fun v3 v15 wr => bs.length - natOf v15)
  case atStart => exact ⟨0, 0, rfl, rfl, rfl, by omega, by omega, by simp⟩
  case round =>
    obtain ⟨i, u, rfl, rfl, rfl, hi, hi9, hg⟩ := hrel
    by_cases hlt : i < bs.length
    · have hx := List.getElem_mem hlt
      have hdrop : bs.drop i = bs[i] :: bs.drop (i + 1) := List.drop_eq_getElem_cons hlt
      rw [hdrop] at hg
      obtain ⟨ad, rfl, hxc⟩ := Kd.at_int hC (i : Int) (by omega) (by omega)
      rw [Int.toNat_natCast] at hxc
      have hrd : rd bs (i : Int) = bs[i] := by
        unfold rd; rw [Int.toNat_natCast, List.getD_eq_getElem?_getD, List.getElem?_eq_getElem hlt]; rfl
      rw [hrd] at hxc
      obtain ⟨x, hxe⟩ : ∃ x, bs[i] = x := ⟨_, rfl⟩
      rw [hxe] at hg hx hxc hdrop
      obtain ⟨hx0, hx256⟩ := hb x hx
      have e1 : decide ((i : Int) < (bs.length : Int)) = true := by simp; omega
      by_cases h9 : i = 9 ∧ 1 < x
      · have hbad : (i = 9 ∧ 1 < x) ∨ (x = 0 ∧ 0 < i) := .inl h9
        have hR : grpGo bs 0 0 = (11, 0, []) := by rw [hg, grpGo, if_pos hbad]
        have hi99 := h9.1
        have b1 : decide (1 < x) = true := by simp; omega
        clear h9 hbad hg
        subst hi99
        have e9 : decide ((9 : Int) < (bs.length : Int)) = true := by simp; omega
        have hxc9 : w.cell? ⟨ad.block, ad.off + 9, none⟩ = some (.int .u8 x) := hxc
        clear e1 hxc
        go_wp2_with (go_at_call 54; refine (fail_calls p _ 11 _ hp).mono ?_; rintro e w' ⟨rfl, rfl⟩)
        go_ret
        exact ⟨by rw [hR]; rfl, by rw [hR]; exact (fail_cur hp).1 11 (by omega), (fail_cur hp).2 11⟩
      · by_cases hl : x < 128
        · have bl : decide (x < 128) = true := by simp; omega
          by_cases hz : x = 0 ∧ 0 < i
          · have hbad : (i = 9 ∧ 1 < x) ∨ (x = 0 ∧ 0 < i) := .inr hz
            have hR : grpGo bs 0 0 = (11, 0, []) := by rw [hg, grpGo, if_pos hbad]
            obtain ⟨hz0, hi0⟩ := hz
            clear h9 bl hl hbad hg
            have bi : decide (0 < (i : Int)) = true := by simp; omega
            by_cases hi99 : i = 9
            · clear bi
              rw [hz0] at hxc
              clear hz0
              subst hi99
              have e9 : decide ((9 : Int) < (bs.length : Int)) = true := by simp; omega
              have hxc9 : w.cell? ⟨ad.block, ad.off + 9, none⟩ = some (.int .u8 0) := hxc
              clear e1 hxc
              go_wp2_with (go_at_call 54; refine (fail_calls p _ 11 _ hp).mono ?_; rintro e w' ⟨rfl, rfl⟩)
              go_ret
              exact ⟨by rw [hR]; rfl, by rw [hR]; exact (fail_cur hp).1 11 (by omega), (fail_cur hp).2 11⟩
            · have b9 : ((i : Int) == 9) = false := by simp; omega
              rw [hz0] at hxc
              clear hz0
              go_wp2_with (go_at_call 54; refine (fail_calls p _ 11 _ hp).mono ?_; rintro e w' ⟨rfl, rfl⟩)
              go_ret
              exact ⟨by rw [hR]; rfl, by rw [hR]; exact (fail_cur hp).1 11 (by omega), (fail_cur hp).2 11⟩
          · have hbad : ¬ ((i = 9 ∧ 1 < x) ∨ (x = 0 ∧ 0 < i)) := fun h => h.elim h9 hz
            have hR : grpGo bs 0 0 = (0, put7 u x i, bs.drop (i + 1)) := by rw [hg, grpGo, if_neg hbad, if_pos hl]
            by_cases hi99 : i = 9
            · have hx1 : x = 1 := by omega
              clear h9 hz hbad hg
              subst hi99
              subst hx1
              have e9 : decide ((9 : Int) < (bs.length : Int)) = true := by simp; omega
              have hxc9 : w.cell? ⟨ad.block, ad.off + 9, none⟩ = some (.int .u8 1) := hxc
              clear e1 hxc
              have S := slice_cur (m := 9 + 1) hp hC hc hAp (by omega) _ rfl
              by_cases hci : c = 9 + 1
              · rw [if_pos hci, show c - (9 + 1) = 0 by omega] at S
                go_wp2
                go_ret
                exact ⟨by rw [hR]; first | rfl | (simp [put7]; done) | (unfold put7; simp; rfl), by rw [hR]; exact S⟩
              · rw [if_neg hci] at S
                go_wp2
                go_ret
                exact ⟨by rw [hR]; first | rfl | (simp [put7]; done) | (unfold put7; simp; rfl), by rw [hR]; exact S⟩
            · have b9 : ((i : Int) == 9) = false := by simp; omega
              by_cases hx00 : x = 0
              · have hi00 : i = 0 := by omega
                clear h9 hz hbad hg b9
                subst hi00
                subst hx00
                have e9 : decide ((0 : Int) < (bs.length : Int)) = true := by simp; omega
                have hxc9 : w.cell? ad = some (.int .u8 0) := hxc
                clear e1 hxc
                have S := slice_cur (m := 0 + 1) hp hC hc hAp (by omega) _ rfl
                by_cases hci : c = 0 + 1
                · rw [if_pos hci, show c - (0 + 1) = 0 by omega] at S
                  go_wp2
                  go_ret
                  exact ⟨by rw [hR]; first | rfl | (simp [put7]; done) | (unfold put7; simp; rfl), by rw [hR]; exact S⟩
                · rw [if_neg hci] at S
                  go_wp2
                  go_ret
                  exact ⟨by rw [hR]; first | rfl | (simp [put7]; done) | (unfold put7; simp; rfl), by rw [hR]; exact S⟩
              · have bz : (x == 0) = false := by simp; omega
                clear h9 hz hbad hg
                have S := slice_cur (m := i + 1) hp hC hc hAp (by omega) _ rfl
                by_cases hci : c = i + 1
                · rw [if_pos hci, show c - (i + 1) = 0 by omega] at S
                  go_wp2
                  go_ret
                  exact ⟨by rw [hR]; first | rfl | (simp [put7]; done) | (unfold put7; simp; rfl), by rw [hR]; exact S⟩
                · rw [if_neg hci] at S
                  go_wp2
                  go_ret
                  exact ⟨by rw [hR]; first | rfl | (simp [put7]; done) | (unfold put7; simp; rfl), by rw [hR]; exact S⟩
        · have bl : decide (x < 128) = false := by simp; omega
          have hi99 : i ≠ 9 := by omega
          have b9 : ((i : Int) == 9) = false := by simp; omega
          have hR : grpGo bs 0 0 = grpGo (bs.drop (i + 1)) (i + 1) (put7 u x i) := by rw [hg, grpGo, if_neg (by omega), if_neg hl]
          clear hg
          go_wp2
          exact ⟨⟨i + 1, put7 u x i, rfl, by rw [Int.natCast_add]; rfl, trivial, by omega, by omega, hR⟩, by simp only [natOf]; omega⟩
    · have hie : i = bs.length := by omega
      have hd : bs.drop i = [] := by rw [hie]; simp
      rw [hd] at hg
      have e1 : decide ((i : Int) < (bs.length : Int)) = false := by simp; omega
      go_wp2_with (go_at_call 54; refine (fail_calls p _ 10 _ hp).mono ?_; rintro e w' ⟨rfl, rfl⟩)
      go_ret
      exact ⟨by rw [hg]; rfl, by rw [hg]; exact (fail_cur hp).1 10 (by omega), (fail_cur hp).2 10⟩
end Go.Proofs.YtkkjjogbfjahgaaDoor.Cur

set_option linter.unusedVariables false
set_option linter.unusedSimpArgs false
namespace Go.Proofs.YtkkjjogbfjahgaaDoor.AsErr
open Go Go.Proofs Go.RowKit Go.Extern.Stop Go.Stop Go.Extern
theorem as_nil (t : Value) (w : World) :
    Calls Tryd.prog 59 #[.nilIface, t] w fun e w' => e = .returned (.bool false) ∧ w' = w := by
  go_enter Tryd.func59, Tryd.ntmps59
  go_wp2
  go_ret
  exact ⟨rfl, rfl⟩

theorem valueOfP (t : Addr) (w : World) : (ReflectliteValue.unpack (.iface 99 (.pointer (some t)))).run Tryd.prog w
    = .ok (.agg #[.pointer (some ⟨1, 99, none⟩), .pointer (some ⟨w.heap.size, 0, none⟩), .int .u64 150]) (w.alloc (.cells #[.pointer (some t)] 99)) := by kernel_rfl
theorem typeP (a : Addr) (w : World) : (ReflectliteValue.methodAny (ReflectliteValue.valueError "reflectlite.Value.Type" 0) (fun t _ _ _ => ReflectliteType.toType t) #[.agg #[.pointer (some ⟨1, 99, none⟩), .pointer (some a), .int .u64 150]]).run Tryd.prog w
    = .ok (.iface 116 (.agg #[.pointer (some ⟨1, 99, none⟩)])) w := by kernel_rfl
theorem methodKind (h : Value) (w : World) : (Go.method 257 116 (.agg #[h]) "Kind").run Tryd.prog w = .ok (85, h) w := by kernel_rfl
theorem kindP (w : World) : ((ReflectliteType.abiMethod fun t => (fun a : Nat => Value.int IntKind.u8 (a : Int)) <$> Rtype.kind t) #[.pointer (some ⟨1, 99, none⟩)]).run Tryd.prog w = .ok (.int .u8 22) w := by kernel_rfl
theorem kindV (w : World) : ((ReflectliteType.abiMethod fun t => (fun a : Nat => Value.int IntKind.u8 (a : Int)) <$> Rtype.kind t) #[.pointer (some ⟨1, 24, none⟩)]).run Tryd.prog w = .ok (.int .u8 2) w := by kernel_rfl

theorem rlm (z : Sem Value) (f : TypeId → Addr → Nat → Nat → Sem Value) (v : Value) :
    ReflectliteValue.method z f #[v] = (do match ← ReflectliteValue.parts v with | none => z | some (t, a, fl) => f t a fl (fl % 32)) := rfl
theorem partsP (a : Addr) (w : World) : (ReflectliteValue.parts (.agg #[.pointer (some ⟨1, 99, none⟩), .pointer (some a), .int .u64 150])).run Tryd.prog w = .ok (some (99, a, 150)) w := by kernel_rfl
theorem isNilP (a p : Addr) (W : World) (ha : W.cell? a = some (.pointer (some p))) :
    (ReflectliteValue.method (ReflectliteValue.valueError "reflectlite.Value.IsNil" 0) ReflectliteValue.isNil #[.agg #[.pointer (some ⟨1, 99, none⟩), .pointer (some a), .int .u64 150]]).run Tryd.prog W = .ok (.bool false) W := by
  rw [rlm]
  simp only [Sem.run_bind, partsP, Result.andThen]
  simp [ReflectliteValue.isNil, loadVar, isAgg, underlying, Tryd.underlying99, ha, Result.andThen]

theorem methodElem (h : Value) (w : World) : (Go.method 257 116 (.agg #[h]) "Elem").run Tryd.prog w = .ok (95, .agg #[h]) w := by kernel_rfl
theorem methodImplements (h : Value) (w : World) : (Go.method 257 116 (.agg #[h]) "Implements").run Tryd.prog w = .ok (96, .agg #[h]) w := by kernel_rfl
theorem methodAssignableTo (h : Value) (w : World) : (Go.method 257 116 (.agg #[h]) "AssignableTo").run Tryd.prog w = .ok (93, .agg #[h]) w := by kernel_rfl
theorem elemP (w : World) : (ReflectliteType.method ReflectliteType.elem #[.agg #[.pointer (some ⟨1, 99, none⟩)]]).run Tryd.prog w = .ok (.iface 116 (.agg #[.pointer (some ⟨1, 24, none⟩)])) w := by kernel_rfl
theorem implementsV (w : World) : (ReflectliteType.relation "Implements" ReflectliteType.implements_ #[.agg #[.pointer (some ⟨1, 24, none⟩)], .iface 116 (.agg #[.pointer (some ⟨1, 74, none⟩)])]).run Tryd.prog w = .ok (.bool true) w := by kernel_rfl
theorem typeOfV (v : Value) (w : World) : (ReflectliteType.typeOf #[.iface 24 v]).run Tryd.prog w = .ok (.iface 116 (.agg #[.pointer (some ⟨1, 24, none⟩)])) w := by kernel_rfl
theorem assignableV (w : World) : (ReflectliteType.relation "AssignableTo" ReflectliteType.assignableTo #[.agg #[.pointer (some ⟨1, 24, none⟩)], .iface 116 (.agg #[.pointer (some ⟨1, 24, none⟩)])]).run Tryd.prog w = .ok (.bool true) w := by kernel_rfl
theorem valueOfV (e : Int) (w : World) : (ReflectliteValue.unpack (.iface 24 (.int .i64 e))).run Tryd.prog w
    = .ok (.agg #[.pointer (some ⟨1, 24, none⟩), .pointer (some ⟨w.heap.size, 0, none⟩), .int .u64 130]) (w.alloc (.cells #[.int .i64 e] 24)) := by kernel_rfl

theorem elemOfP (w : World) : (Rtype.elem? 99).run Tryd.prog w = .ok (some 24) w := by kernel_rfl
theorem mkV (p : Addr) (w : World) : (ReflectliteValue.mk 24 p ReflectliteValue.flagAddr).run Tryd.prog w = .ok (.agg #[.pointer (some ⟨1, 24, none⟩), .pointer (some p), .int .u64 386]) w := by kernel_rfl
theorem elemVP (a p : Addr) (W : World) (ha : W.cell? a = some (.pointer (some p))) :
    (ReflectliteValue.method (ReflectliteValue.valueError "reflectlite.Value.Elem" 0) ReflectliteValue.elem #[.agg #[.pointer (some ⟨1, 99, none⟩), .pointer (some a), .int .u64 150]]).run Tryd.prog W
      = .ok (.agg #[.pointer (some ⟨1, 24, none⟩), .pointer (some p), .int .u64 386]) W := by
  rw [rlm]
  simp only [Sem.run_bind, partsP, Result.andThen]
  simp [ReflectliteValue.elem, loadVar, isAgg, underlying, Tryd.underlying99, ha, Result.andThen, elemOfP, mkV]
theorem rls (v x : Value) : ReflectliteValue.set #[v, x] = (do
    let (some (dst, a, fl), some (src, b, _)) := (← ReflectliteValue.parts v, ← ReflectliteValue.parts x)
      | unsupported (.noEntry "extern/(internal/reflectlite.Value).Set.zeroValue")
    if fl / ReflectliteValue.flagAddr % 2 == 0 then unsupported (.noEntry "extern/(internal/reflectlite.Value).Set.unaddressable")
    let val ← loadVar src b
    if ← Rtype.directlyAssignable dst src then storeVar dst a val
    else if ← Rtype.implements dst src then
      if (← Rtype.kind src) == 20 then
        match val with
        | .nilIface => unsupported (.noEntry "extern/reflectlite: a nil value of one interface type handed on as a value of another")
        | _ => storeVar dst a val
      else storeVar dst a (.iface src val)
    else panicString ("reflectlite.Set: value of type " ++ (← Rtype.spelt src) ++ " is not assignable to type " ++ (← Rtype.spelt dst))
    pure (.tuple #[])) := rfl
theorem partsVa (a : Addr) (w : World) : (ReflectliteValue.parts (.agg #[.pointer (some ⟨1, 24, none⟩), .pointer (some a), .int .u64 386])).run Tryd.prog w = .ok (some (24, a, 386)) w := by kernel_rfl
theorem partsV (a : Addr) (w : World) : (ReflectliteValue.parts (.agg #[.pointer (some ⟨1, 24, none⟩), .pointer (some a), .int .u64 130])).run Tryd.prog w = .ok (some (24, a, 130)) w := by kernel_rfl
theorem directV (w : World) : (Rtype.directlyAssignable 24 24).run Tryd.prog w = .ok true w := by kernel_rfl
theorem sizeV (w : World) : (sizeOf 24).run Tryd.prog w = .ok 1 w := by kernel_rfl
theorem setV (ta b : Addr) (e : Int) (old : Value) (W : World) (hb : W.cell? b = some (.int .i64 e)) (ht : W.cell? ta = some old) (hf : W.frozen? ta = false) :
    (ReflectliteValue.set #[.agg #[.pointer (some ⟨1, 24, none⟩), .pointer (some ta), .int .u64 386], .agg #[.pointer (some ⟨1, 24, none⟩), .pointer (some b), .int .u64 130]]).run Tryd.prog W
      = .ok (.tuple #[]) (W.setCell ta (.int .i64 e)) := by
  rw [rls]
  simp only [Sem.run_bind, partsVa, partsV, Result.andThen]
  simp [ReflectliteValue.flagAddr, loadVar, isAgg, underlying, Tryd.underlying24, hb, Result.andThen, directV, storeVar, Value.cells, storeCells, Addr.add]
  rw [run_store Tryd.prog W ta _ _ (by rfl)]
  simp [ht, hf]

set_option maxRecDepth 100000 in
set_option maxHeartbeats 4000000 in
theorem as_hit (e : Int) (t : Addr) (old : Value) (w : World) (hg : w.cell? ⟨0, 0, none⟩ = some (.iface 116 (.agg #[.pointer (some ⟨1, 74, none⟩)]))) (ht0 : w.cell? t = some old) (hf0 : w.frozen? t = false) :
    Calls Tryd.prog 59 #[.iface 24 (.int .i64 e), .iface 99 (.pointer (some t))] w fun ev w' => ev = .returned (.bool true) ∧ w' = ((((w.alloc (.cells #[.pointer (some t)] 99)).alloc (.cells #[.pointer (some ⟨1, 99, none⟩), .pointer (some ⟨w.heap.size, 0, none⟩), .int .u64 150] 106)).alloc (.cells #[.pointer (some ⟨1, 99, none⟩), .pointer (some ⟨w.heap.size, 0, none⟩), .int .u64 150] 106)).alloc (.cells #[.int .i64 e] 24)).setCell t (.int .i64 e) := by
  have h6 := @run_callFunc_extern Tryd.prog 64 _ (fun args => ReflectliteValue.unpack (args.getD 0 (.tuple #[]))) Tryd.func64 (by kernel_rfl) (by kernel_rfl) (by kernel_rfl) (by kernel_rfl)
  have h7 := @run_callFunc_extern Tryd.prog 65 _ (ReflectliteValue.methodAny (ReflectliteValue.valueError "reflectlite.Value.Type" 0) (fun t _ _ _ => ReflectliteType.toType t)) Tryd.func65 (by kernel_rfl) (by kernel_rfl) (by kernel_rfl) (by kernel_rfl)
  have h8 := @run_callFunc_extern Tryd.prog 66 _ (ReflectliteValue.method (ReflectliteValue.valueError "reflectlite.Value.IsNil" 0) ReflectliteValue.isNil) Tryd.func66 (by kernel_rfl) (by kernel_rfl) (by kernel_rfl) (by kernel_rfl)
  have h27 := @run_callFunc_extern Tryd.prog 85 _ (ReflectliteType.abiMethod fun t => do pure (.int .u8 (← Rtype.kind t))) Tryd.func85 (by kernel_rfl) (by kernel_rfl) (by kernel_rfl) (by kernel_rfl)
  have h37 := @run_callFunc_extern Tryd.prog 95 _ (ReflectliteType.method ReflectliteType.elem) Tryd.func95 (by kernel_rfl) (by kernel_rfl) (by kernel_rfl) (by kernel_rfl)
  have h38 := @run_callFunc_extern Tryd.prog 96 _ (ReflectliteType.relation "Implements" ReflectliteType.implements_) Tryd.func96 (by kernel_rfl) (by kernel_rfl) (by kernel_rfl) (by kernel_rfl)
  have h10 := @run_callFunc_extern Tryd.prog 68 _ ReflectliteType.typeOf Tryd.func68 (by kernel_rfl) (by kernel_rfl) (by kernel_rfl) (by kernel_rfl)
  have h35 := @run_callFunc_extern Tryd.prog 93 _ (ReflectliteType.relation "AssignableTo" ReflectliteType.assignableTo) Tryd.func93 (by kernel_rfl) (by kernel_rfl) (by kernel_rfl) (by kernel_rfl)
  have h11 := @run_callFunc_extern Tryd.prog 69 _ (ReflectliteValue.method (ReflectliteValue.valueError "reflectlite.Value.Elem" 0) ReflectliteValue.elem) Tryd.func69 (by kernel_rfl) (by kernel_rfl) (by kernel_rfl) (by kernel_rfl)
  have h12 := @run_callFunc_extern Tryd.prog 70 _ ReflectliteValue.set Tryd.func70 (by kernel_rfl) (by kernel_rfl) (by kernel_rfl) (by kernel_rfl)
  have tO := typeOfV
  have mA := methodAssignableTo
  have a25 := assignableV
  have v25 := valueOfV
  have f6 := valueOfP
  have f7 := typeP
  have mK := methodKind
  have mE := methodElem
  have mI := methodImplements
  have k27 := kindP
  have k25 := kindV
  have e27 := elemP
  have i25 := implementsV
  have n8 := isNilP ⟨w.heap.size, 0, none⟩ t ((w.alloc (.cells #[.pointer (some t)] 99)).alloc (.cells #[.pointer (some ⟨1, 99, none⟩), .pointer (some ⟨w.heap.size, 0, none⟩), .int .u64 150] 106)) (by simp)
  have hlt : 0 < w.heap.size := by
    rcases Nat.eq_zero_or_pos w.heap.size with h0 | h
    · simp [World.cell?, h0] at hg
    · exact h
  have hg2 : ((w.alloc (.cells #[.pointer (some t)] 99)).alloc (.cells #[.pointer (some ⟨1, 99, none⟩), .pointer (some ⟨w.heap.size, 0, none⟩), .int .u64 150] 106)).cell? ⟨0, 0, none⟩ = some (.iface 116 (.agg #[.pointer (some ⟨1, 74, none⟩)])) := by
    rw [World.cell?_alloc_lt _ _ ⟨0, 0, none⟩ (by simp), World.cell?_alloc_lt _ _ ⟨0, 0, none⟩ hlt]; exact hg
  have htl : t.block < w.heap.size := by
    rcases Nat.lt_or_ge t.block w.heap.size with h | h
    · exact h
    · simp [World.cell?, Array.getElem?_eq_none h] at ht0
  have el := elemVP ⟨w.heap.size, 0, none⟩ t (((w.alloc (.cells #[.pointer (some t)] 99)).alloc (.cells #[.pointer (some ⟨1, 99, none⟩), .pointer (some ⟨w.heap.size, 0, none⟩), .int .u64 150] 106)).alloc (.cells #[.pointer (some ⟨1, 99, none⟩), .pointer (some ⟨w.heap.size, 0, none⟩), .int .u64 150] 106)) (by rw [World.cell?_alloc_lt _ _ ⟨w.heap.size, 0, none⟩ (by simp; omega)]; simp)
  have st := setV t ⟨w.heap.size + 1 + 1 + 1, 0, none⟩ e old ((((w.alloc (.cells #[.pointer (some t)] 99)).alloc (.cells #[.pointer (some ⟨1, 99, none⟩), .pointer (some ⟨w.heap.size, 0, none⟩), .int .u64 150] 106)).alloc (.cells #[.pointer (some ⟨1, 99, none⟩), .pointer (some ⟨w.heap.size, 0, none⟩), .int .u64 150] 106)).alloc (.cells #[.int .i64 e] 24))
    (by rw [World.cell?_alloc_at _ _ _ _ (by simp)]; rfl)
    (by rw [World.cell?_alloc_lt _ _ t (by simp; omega), World.cell?_alloc_lt _ _ t (by simp; omega), World.cell?_alloc_lt _ _ t (by simp; omega), World.cell?_alloc_lt _ _ t htl]; exact ht0)
    (by rw [World.frozen?_alloc_old _ _ t (by simp; omega), World.frozen?_alloc_old _ _ t (by simp; omega), World.frozen?_alloc_old _ _ t (by simp; omega), World.frozen?_alloc_old _ _ t (Nat.ne_of_lt htl)]; exact hf0)
  go_enter Tryd.func59, Tryd.ntmps59
  go_wp2
  refine wp_loop_rounds 1 ?_
  rw [rounds_succ]
  go_wp2
  go_ret
  exact ⟨rfl, rfl⟩
end Go.Proofs.YtkkjjogbfjahgaaDoor.AsErr

set_option linter.unusedVariables false
set_option linter.unusedSimpArgs false
namespace Go.Proofs.YtkkjjogbfjahgaaDoor.Cur
open Go Go.Proofs Go.RowKit Go.Proofs.YtkkjjogbfjahgaaDoorW.PrintWords Go.Proofs.YtkkjjogbfjahgaaDoor.AsErr Go.Proofs.YtkkjjogbfjahgaaDoor.PSc

/-- errors' type of errors lies in its variable -/
def ErrT (w : World) : Prop := w.cell? ⟨0, 0, none⟩ = some (.iface 116 (.agg #[.pointer (some ⟨1, 74, none⟩)]))

set_option maxRecDepth 100000 in
set_option maxHeartbeats 4000000 in
theorem group_bad (p : Nat) (bs : List Int) (e : Int) (he : e ≠ 0) (w : World) (hcur : CurIs w p bs e) :
    Calls Tryd.prog 58 #[.pointer (some ⟨p, 0, none⟩)] w fun ev w' => ev = .returned (.int .u64 0) ∧ w' = w := by
  obtain ⟨A, c, hp, _, _, _⟩ := hcur
  go_enter Tryd.func58, Tryd.ntmps58
  go_wp2_with (go_at_call 53; refine (fine_calls p _ e w hp).mono ?_; rintro ev w' ⟨rfl, hw'⟩; rw [hw', decide_eq_false he]; clear hw')
  go_ret
  exact ⟨rfl, rfl⟩

/-- a number, and the cursor behind it -/
def unf (u : Int) : Int := Go.bits .xor .i64 (wrap64 (u / 2)) (wrap64 (-(wrap64 (Go.bits .and .u64 u 1))))
def intOf (bs : List Int) (e : Int) : Int × List Int × Int :=
  if e = 0 then (unf (grpGo bs 0 0).2.1, (grpGo bs 0 0).2.2, (grpGo bs 0 0).1) else (unf 0, bs, e)

set_option maxRecDepth 100000 in
set_option maxHeartbeats 1000000 in
theorem unfold_calls (a0 : Int) (w : World) : Calls Tryd.prog 57 #[.int .u64 a0] w fun e w' => e = .returned (.int .i64 (unf a0)) ∧ w' = w := by
  go_enter Tryd.func57, Tryd.ntmps57
  go_wp2
  go_ret
  exact ⟨rfl, rfl⟩

set_option maxRecDepth 100000 in
set_option maxHeartbeats 1000000 in
theorem int_calls (p : Nat) (bs : List Int) (e : Int) (w : World) (hcur : CurIs w p bs e) (hb : ∀ x ∈ bs, 0 ≤ x ∧ x < 256) :
    Calls Tryd.prog 36 #[.pointer (some ⟨p, 0, none⟩)] w fun ev w' => ev = .returned (.int .i64 (intOf bs e).1) ∧ CurIs w' p (intOf bs e).2.1 (intOf bs e).2.2 ∧ Only p w w' := by
  unfold intOf
  by_cases he : e = 0
  · subst he
    simp only [if_true]
    go_enter Tryd.func36, Tryd.ntmps36
    go_wp2_with (first
      | (go_at_call 58; refine (group_calls p bs w hcur hb).mono ?_; rintro ev w1 ⟨rfl, hc1, ho1⟩)
      | (go_at_call 57; refine (unfold_calls _ _).mono ?_; rintro ev w2 ⟨rfl, hw2⟩; rw [hw2]; clear hw2))
    go_ret
    exact ⟨rfl, hc1, ho1⟩
  · simp only [if_neg he]
    go_enter Tryd.func36, Tryd.ntmps36
    go_wp2_with (first
      | (go_at_call 58; refine (group_bad p bs e he w hcur).mono ?_; rintro ev w1 ⟨rfl, hw1⟩; rw [hw1]; clear hw1)
      | (go_at_call 57; refine (unfold_calls _ _).mono ?_; rintro ev w2 ⟨rfl, hw2⟩; rw [hw2]; clear hw2))
    go_ret
    exact ⟨rfl, hcur, Only.refl _ _⟩

set_option maxRecDepth 100000 in
set_option maxHeartbeats 1000000 in
theorem rest_calls (p : Nat) (bs : List Int) (e : Int) (w : World) (hcur : CurIs w p bs e) :
    Calls Tryd.prog 17 #[.pointer (some ⟨p, 0, none⟩)] w fun ev w' => ev = .returned (.int .i64 (bs.length : Int)) ∧ w' = w := by
  obtain ⟨A, c, hp, _, _, _⟩ := hcur
  have hc0 : w.cell? ⟨p, 0, none⟩ = some (.slice A bs.length c) := (blk_cell hp 0).trans rfl
  clear hp
  go_enter Tryd.func17, Tryd.ntmps17
  go_wp2
  go_ret
  exact ⟨rfl, rfl⟩

set_option maxRecDepth 100000 in
set_option maxHeartbeats 4000000 in
theorem bad_calls (p : Nat) (bs : List Int) (e : Int) (w : World) (hcur : CurIs w p bs e) (hE : ErrT w) :
    Calls Tryd.prog 37 #[.pointer (some ⟨p, 0, none⟩)] w fun ev w' => ev = .returned (.int .i64 e) ∧ Below w.heap.size w w' := by
  obtain ⟨A, c, hp, _, _, _⟩ := hcur
  have hpl : p < w.heap.size := blk_lt hp
  by_cases he : e = 0
  · subst he
    have hc1 : w.cell? ⟨p, 1, none⟩ = some .nilIface := (blk_cell hp 1).trans rfl
    clear hp
    go_enter Tryd.func37, Tryd.ntmps37
    go_wp2_with (go_at_call 59; refine (as_nil _ _).mono ?_; rintro ev w1 ⟨rfl, hw1⟩; rw [hw1]; clear hw1)
    go_ret
    exact ⟨rfl, (Below.refl _ w).alloc (Nat.le_refl _) _⟩
  · have hc1 : w.cell? ⟨p, 1, none⟩ = some (.iface 24 (.int .i64 e)) := by rw [(blk_cell hp 1).trans rfl]; simp [badV, he]
    clear hp
    have h0 : 0 < w.heap.size := by
      rcases Nat.eq_zero_or_pos w.heap.size with h | h
      · simp [ErrT, World.cell?, h] at hE
      · exact h
    have hg : (w.alloc (.cells #[.int .i64 0] 24)).cell? ⟨0, 0, none⟩ = some (.iface 116 (.agg #[.pointer (some ⟨1, 74, none⟩)])) := by
      rw [World.cell?_alloc_lt _ _ ⟨0, 0, none⟩ h0]; exact hE
    have hn := blk_new w (.cells #[.int .i64 0] 24)
    have ht0 : (w.alloc (.cells #[.int .i64 0] 24)).cell? ⟨w.heap.size, 0, none⟩ = some (.int .i64 0) := (blk_cell hn 0).trans rfl
    have hf0 := blk_frozen hn 0
    go_enter Tryd.func37, Tryd.ntmps37
    go_wp2_with (go_at_call 59; refine (as_hit e ⟨w.heap.size, 0, none⟩ (.int .i64 0) _ hg ht0 hf0).mono ?_; rintro ev w1 ⟨rfl, hw1⟩
                 have hB : Below w.heap.size w w1 := by
                   rw [hw1]
                   exact Below.setCell (p := ⟨w.heap.size, 0, none⟩) (((((( Below.refl _ w).alloc (Nat.le_refl _) _).alloc (by simp) _).alloc (by simp; omega) _).alloc (by simp; omega) _).alloc (by simp; omega) _) (Nat.le_refl _) _
                 have hL : w1.cell? ⟨w.heap.size, 0, none⟩ = some (.int .i64 e) := by
                   rw [hw1]
                   refine World.cell?_setCell_same' _ _ _ ?_
                   rw [World.cell?_alloc_lt _ _ ⟨w.heap.size, 0, none⟩ (by simp; omega), World.cell?_alloc_lt _ _ ⟨w.heap.size, 0, none⟩ (by simp; omega), World.cell?_alloc_lt _ _ ⟨w.heap.size, 0, none⟩ (by simp; omega), World.cell?_alloc_lt _ _ ⟨w.heap.size, 0, none⟩ (by simp), ht0]; rfl
                 clear hw1)
    go_ret
    exact ⟨rfl, hB⟩
end Go.Proofs.YtkkjjogbfjahgaaDoor.Cur

set_option linter.unusedVariables false
set_option linter.unusedSimpArgs false
namespace Go.Proofs.YtkkjjogbfjahgaaDoor.Cur
open Go Go.Proofs Go.RowKit Go.Proofs.YtkkjjogbfjahgaaDoorW.PrintWords Go.Proofs.YtkkjjogbfjahgaaDoor.AsErr Go.Proofs.YtkkjjogbfjahgaaDoor.PSc

set_option maxRecDepth 100000 in
set_option maxHeartbeats 4000000 in
theorem read_calls (A0 : Option Addr) (c0 : Nat) (bs : List Int) (w : World) (hC : Kd.C (Kd.int .u8) w A0 bs.length bs) (hc : bs.length ≤ c0) (hm : bs.length < 140737488355328) :
    Calls Tryd.prog 16 #[.slice A0 bs.length c0] w fun ev w' => ∃ p, ev = .returned (.pointer (some ⟨p, 0, none⟩)) ∧ w.heap.size ≤ p ∧ CurIs w' p bs 0 ∧ Below w.heap.size w w' := by
  have hf : slices_Clone_byte_byte.f bs = some bs := by
    unfold slices_Clone_byte_byte.f
    simp only [Option.bind_some, List.length_nil, Nat.zero_add, List.nil_append]
    rw [if_pos hm]
  go_enter Tryd.func16, Tryd.ntmps16
  go_wp2_with (go_at_call 32; refine (slices_Clone_byte_byte.calls A0 c0 bs bs w hC hc hf).mono ?_; rintro ev w1 ⟨v0, rfl, hR, hB⟩
               obtain ⟨A, c, rfl, hlc, hC1⟩ := Kd.R_reads hR)
  go_ret
  obtain ⟨_, inner, ho, _⟩ := hR
  refine ⟨w1.heap.size, rfl, hB.size, ⟨A, c, ?_, Kd.C_below hC1 ((Below.refl _ w1).alloc (Nat.le_refl _) _), hlc, fun a ha => ?_⟩, hB.alloc hB.size _⟩
  · exact blk_new w1 _
  · subst ha
    exact own_lt ho a.block rfl
end Go.Proofs.YtkkjjogbfjahgaaDoor.Cur

set_option linter.unusedVariables false
set_option linter.unusedSimpArgs false
namespace Go.Proofs.YtkkjjogbfjahgaaDoor.Cur
open Go Go.Proofs Go.RowKit Go.Proofs.YtkkjjogbfjahgaaDoorW.PrintWords Go.Proofs.YtkkjjogbfjahgaaDoor.AsErr

theorem CurIs.below {w w' : World} {p : Nat} {bs : List Int} {e : Int} (h : CurIs w p bs e) (hB : Below w.heap.size w w') : CurIs w' p bs e := by
  obtain ⟨A, c, hp, hC, hc, ha⟩ := h
  exact ⟨A, c, blk_below hp hB, Kd.C_below hC hB, hc, ha⟩
theorem ErrT.lt {w : World} (hE : ErrT w) : 0 < w.heap.size := by
  rcases Nat.eq_zero_or_pos w.heap.size with h | h
  · simp [ErrT, World.cell?, h] at hE
  · exact h
theorem ErrT.belowN {n : Nat} {w w' : World} (hE : ErrT w) (h0 : 0 < n) (hB : Below n w w') : ErrT w' := (hB.cell (p := ⟨0, 0, none⟩) h0).trans hE
theorem ErrT.below {w w' : World} (hE : ErrT w) (hB : Below w.heap.size w w') : ErrT w' := hE.belowN hE.lt hB
theorem ErrT.go {w w' : World} (hB : Below w.heap.size w w') (hE : ErrT w) : ErrT w' := hE.below hB
theorem CurIs.lt {W : World} {p : Nat} {bs : List Int} {e : Int} (h : CurIs W p bs e) : p < W.heap.size := by obtain ⟨_, _, hp, _⟩ := h; exact blk_lt hp
theorem CurIs.same {W W1 : World} {p : Nat} {bs : List Int} {e : Int} (h : CurIs W p bs e) (hk : ∀ k, k ≤ p → W1.heap[k]? = W.heap[k]?) : CurIs W1 p bs e := by
  obtain ⟨A, c, hp, hC, hc, ha⟩ := h
  refine ⟨A, c, (hk p (Nat.le_refl _)).trans hp, ?_, hc, ha⟩
  obtain ⟨h1, h2, h3⟩ := hC
  refine ⟨h1, h2, fun h0 => ?_⟩
  obtain ⟨ad, e', hcs⟩ := h3 h0
  refine ⟨ad, e', fun j x hx => ?_⟩
  obtain ⟨cs, q1, q2, q3⟩ := hcs j x hx
  refine ⟨cs, q1, q2, fun i u hu => ?_⟩
  rw [← q3 i u hu]
  exact World.cell?_of_block (w := W) (hk _ (by rw [Cur.add_block]; exact Nat.le_of_lt (ha ad e')))
theorem grpGo_sub : ∀ (bs : List Int) (i : Nat) (u : Int) (x : Int), x ∈ (grpGo bs i u).2.2 → x ∈ bs
  | [], _, _, x, h => by simp [grpGo] at h
  | y :: r, i, u, x, h => by
    unfold grpGo at h
    split at h
    · simp at h
    · split at h
      · exact List.mem_cons_of_mem _ h
      · exact List.mem_cons_of_mem _ (grpGo_sub r _ _ x h)
theorem intOf_sub (bs : List Int) (e : Int) (x : Int) (h : x ∈ (Cur.intOf bs e).2.1) : x ∈ bs := by
  unfold Cur.intOf at h
  split at h
  · exact grpGo_sub _ _ _ _ h
  · exact h

/-- a number from 0 up to a greatest, and the cursor behind it -/
def smallOf (most : Int) (bs : List Int) (e : Int) : Int × List Int × Int :=
  if (intOf bs e).2.2 = 0 ∧ ((intOf bs e).1 < 0 ∨ most < (intOf bs e).1) then (0, [], 2) else intOf bs e
theorem smallOf_sub (most : Int) (bs : List Int) (e : Int) (x : Int) (h : x ∈ (smallOf most bs e).2.1) : x ∈ bs := by
  unfold smallOf at h
  split at h
  · simp at h
  · exact intOf_sub _ _ _ h

set_option maxRecDepth 100000 in
set_option maxHeartbeats 4000000 in
theorem small_calls (p : Nat) (most : Int) (bs : List Int) (e : Int) (w : World) (hcur : CurIs w p bs e) (hb : ∀ x ∈ bs, 0 ≤ x ∧ x < 256) :
    Calls Tryd.prog 33 #[.pointer (some ⟨p, 0, none⟩), .int .i64 most] w fun ev w' => ev = .returned (.int .i64 (smallOf most bs e).1) ∧ CurIs w' p (smallOf most bs e).2.1 (smallOf most bs e).2.2 ∧ Only p w w' := by
  have HI := Aside0.mk (int_calls p bs e w hcur hb)
  unfold smallOf
  obtain ⟨⟨v, bs', e'⟩, hr⟩ : ∃ r, intOf bs e = r := ⟨_, rfl⟩
  rw [hr] at HI ⊢
  clear hr hcur hb
  simp only at HI ⊢
  by_cases he : e' = 0
  · subst he
    by_cases hv : v < 0
    · rw [if_pos ⟨rfl, .inl hv⟩]
      have e1 : decide (v < 0) = true := decide_eq_true hv
      clear hv
      go_enter Tryd.func33, Tryd.ntmps33
      go_wp2_with (first
        | (go_at_call 36; refine HI.out.mono ?_; rintro ev w1 ⟨rfl, hc1, ho1⟩; obtain ⟨A, c, hp, _⟩ := id hc1)
        | (go_at_call 53; refine (fine_calls p _ 0 _ hp).mono ?_; rintro ev w2 ⟨rfl, hw2⟩; rw [hw2]; clear hw2)
        | (go_at_call 54; have hF := fail_cur hp; refine (fail_calls p _ 2 _ hp).mono ?_; rintro ev w3 ⟨rfl, hw3⟩; rw [hw3]; clear hw3))
      go_ret
      exact ⟨rfl, hF.1 2 (by omega), ho1.trans (hF.2 2)⟩
    · have e1 : decide (v < 0) = false := decide_eq_false hv
      by_cases hm : most < v
      · rw [if_pos ⟨rfl, .inr hm⟩]
        have e2 : decide (v > most) = true := decide_eq_true hm
        clear hv hm
        go_enter Tryd.func33, Tryd.ntmps33
        go_wp2_with (first
          | (go_at_call 36; refine HI.out.mono ?_; rintro ev w1 ⟨rfl, hc1, ho1⟩; obtain ⟨A, c, hp, _⟩ := id hc1)
          | (go_at_call 53; refine (fine_calls p _ 0 _ hp).mono ?_; rintro ev w2 ⟨rfl, hw2⟩; rw [hw2]; clear hw2)
          | (go_at_call 54; have hF := fail_cur hp; refine (fail_calls p _ 2 _ hp).mono ?_; rintro ev w3 ⟨rfl, hw3⟩; rw [hw3]; clear hw3))
        go_ret
        exact ⟨rfl, hF.1 2 (by omega), ho1.trans (hF.2 2)⟩
      · rw [if_neg (fun h => by rcases h.2 with h | h <;> omega)]
        have e2 : decide (v > most) = false := decide_eq_false hm
        clear hv hm
        go_enter Tryd.func33, Tryd.ntmps33
        go_wp2_with (first
          | (go_at_call 36; refine HI.out.mono ?_; rintro ev w1 ⟨rfl, hc1, ho1⟩; obtain ⟨A, c, hp, _⟩ := id hc1)
          | (go_at_call 53; refine (fine_calls p _ 0 _ hp).mono ?_; rintro ev w2 ⟨rfl, hw2⟩; rw [hw2]; clear hw2))
        go_ret
        exact ⟨rfl, hc1, ho1⟩
  · rw [if_neg (fun h => he h.1)]
    go_enter Tryd.func33, Tryd.ntmps33
    go_wp2_with (first
      | (go_at_call 36; refine HI.out.mono ?_; rintro ev w1 ⟨rfl, hc1, ho1⟩; obtain ⟨A, c, hp, _⟩ := id hc1)
      | (go_at_call 53; refine (fine_calls p _ e' _ hp).mono ?_; rintro ev w2 ⟨rfl, hw2⟩; rw [hw2, decide_eq_false he]; clear hw2))
    go_ret
    exact ⟨rfl, hc1, ho1⟩

/-- what is wrong in the end: bytes that are left -/
def endOf (bs : List Int) (e : Int) : Int := if e = 0 ∧ 0 < bs.length then 11 else e
set_option maxRecDepth 100000 in
set_option maxHeartbeats 4000000 in
theorem end_calls (p : Nat) (bs : List Int) (e : Int) (w : World) (hcur : CurIs w p bs e) (hE : ErrT w) :
    Calls Tryd.prog 55 #[.pointer (some ⟨p, 0, none⟩)] w fun ev w' => ev = .returned (.int .i64 (endOf bs e)) ∧ Below w.heap.size w w' := by
  have HR := Aside0.mk (rest_calls p bs e w hcur)
  have HB := Aside0.mk (bad_calls p bs e w hcur hE)
  obtain ⟨A, c, hp, _⟩ := hcur
  unfold endOf
  by_cases he : e = 0
  · subst he
    by_cases hl : 0 < bs.length
    · rw [if_pos ⟨rfl, hl⟩]
      have e1 : decide ((bs.length : Int) > 0) = true := decide_eq_true (by omega)
      go_enter Tryd.func55, Tryd.ntmps55
      go_wp2_with (first
        | (go_at_call 53; refine (fine_calls p _ 0 _ hp).mono ?_; rintro ev w2 ⟨rfl, hw2⟩; rw [hw2]; clear hw2)
        | (go_at_call 17; refine HR.out.mono ?_; rintro ev w2 ⟨rfl, hw2⟩; rw [hw2]; clear hw2))
      go_ret
      exact ⟨rfl, Below.refl _ _⟩
    · rw [if_neg (fun h => hl h.2)]
      have e1 : decide ((bs.length : Int) > 0) = false := decide_eq_false (by omega)
      go_enter Tryd.func55, Tryd.ntmps55
      go_wp2_with (first
        | (go_at_call 53; refine (fine_calls p _ 0 _ hp).mono ?_; rintro ev w2 ⟨rfl, hw2⟩; rw [hw2]; clear hw2)
        | (go_at_call 17; refine HR.out.mono ?_; rintro ev w2 ⟨rfl, hw2⟩; rw [hw2]; clear hw2)
        | (go_at_call 37; refine HB.out.mono ?_; rintro ev w2 ⟨rfl, hw2⟩))
      go_ret
      exact ⟨rfl, hw2⟩
  · rw [if_neg (fun h => he h.1)]
    go_enter Tryd.func55, Tryd.ntmps55
    go_wp2_with (first
      | (go_at_call 53; refine (fine_calls p _ e _ hp).mono ?_; rintro ev w2 ⟨rfl, hw2⟩; rw [hw2, decide_eq_false he]; clear hw2)
      | (go_at_call 37; refine HB.out.mono ?_; rintro ev w2 ⟨rfl, hw2⟩))
    go_ret
    exact ⟨rfl, hw2⟩
end Go.Proofs.YtkkjjogbfjahgaaDoor.Cur

set_option linter.unusedVariables false
set_option linter.unusedSimpArgs false
/- A text of a cursor's bytes. -/
namespace Go.Proofs.YtkkjjogbfjahgaaDoor.Cur
open Go Go.Proofs Go.RowKit Go.Proofs.YtkkjjogbfjahgaaDoorW.PrintWords Go.Proofs.YtkkjjogbfjahgaaDoor.AsErr

/-- a text, and the cursor behind it -/
def textOf (bs : List Int) (e : Int) : List Int × List Int × Int :=
  let s := smallOf 65536 bs e
  if s.2.2 ≠ 0 then ([], s.2.1, s.2.2) else if (s.2.1.length : Int) < s.1 then ([], [], 10) else (s.2.1.take s.1.toNat, s.2.1.drop s.1.toNat, 0)
theorem textOf_sub (bs : List Int) (e : Int) (x : Int) (h : x ∈ (textOf bs e).2.1) : x ∈ bs := by
  unfold textOf at h
  dsimp only at h
  split at h
  · exact smallOf_sub _ _ _ _ h
  · split at h
    · simp at h
    · exact smallOf_sub _ _ _ _ (List.mem_of_mem_drop h)
theorem grpGo_bad0 : ∀ (bs : List Int) (i : Nat) (u : Int), (grpGo bs i u).1 ≠ 0 → (grpGo bs i u).2.1 = 0
  | [], _, _ => by simp [grpGo]
  | x :: r, i, u => fun h => by
    unfold grpGo at h ⊢
    split at h
    · rename_i h1; rw [if_pos h1]
    · rename_i h1
      rw [if_neg h1]
      split at h
      · exact absurd rfl h
      · rename_i h2; rw [if_neg h2]; exact grpGo_bad0 r _ _ h
theorem intOf_bad0 (bs : List Int) (e : Int) (h : (Cur.intOf bs e).2.2 ≠ 0) : (Cur.intOf bs e).1 = 0 := by
  have hz : unf 0 = 0 := by kernel_rfl
  unfold Cur.intOf at h ⊢
  split
  · rename_i he
    rw [if_pos he] at h
    show unf (grpGo bs 0 0).2.1 = 0
    rw [grpGo_bad0 bs 0 0 h, hz]
  · exact hz
theorem smallOf_in (most : Int) (hm : 0 ≤ most) (bs : List Int) (e : Int) : 0 ≤ (smallOf most bs e).1 ∧ (smallOf most bs e).1 ≤ most := by
  unfold smallOf
  split
  · exact ⟨Int.le_refl _, hm⟩
  · rename_i h
    by_cases h0 : (Cur.intOf bs e).2.2 = 0
    · have : ¬((Cur.intOf bs e).1 < 0 ∨ most < (Cur.intOf bs e).1) := fun h1 => h ⟨h0, h1⟩
      omega
    · rw [intOf_bad0 bs e h0]; exact ⟨Int.le_refl _, hm⟩

set_option maxRecDepth 100000 in
set_option maxHeartbeats 4000000 in
theorem text_calls (p : Nat) (bs : List Int) (e : Int) (w : World) (hcur : CurIs w p bs e) (hb : ∀ x ∈ bs, 0 ≤ x ∧ x < 256) :
    Calls Tryd.prog 35 #[.pointer (some ⟨p, 0, none⟩)] w fun ev w' => ev = .returned (.string (strOfNums (textOf bs e).1)) ∧ CurIs w' p (textOf bs e).2.1 (textOf bs e).2.2 ∧ Only p w w' := by
  have HI := Aside0.mk (small_calls p 65536 bs e w hcur hb)
  have hrg := smallOf_in 65536 (by omega) bs e
  have hbs := fun x hx => smallOf_sub 65536 bs e x hx
  unfold textOf
  obtain ⟨⟨n, bs', e'⟩, hr⟩ : ∃ r, smallOf 65536 bs e = r := ⟨_, rfl⟩
  rw [hr] at HI hrg hbs ⊢
  clear hr hcur
  simp only at HI hrg hbs ⊢
  by_cases he : e' = 0
  · subst he
    rw [if_neg (fun h => h rfl)]
    by_cases hn : (bs'.length : Int) < n
    · rw [if_pos hn]
      have e1 : decide (n > (bs'.length : Int)) = true := decide_eq_true hn
      clear hn
      go_enter Tryd.func35, Tryd.ntmps35
      go_wp2_with (first
        | (go_at_call 33; refine HI.out.mono ?_; rintro ev w1 ⟨rfl, hc1, ho1⟩; obtain ⟨A, c, hp, _⟩ := id hc1; have hc0 : w1.cell? ⟨p, 0, none⟩ = some (.slice A bs'.length c) := (blk_cell hp 0).trans rfl)
        | (go_at_call 53; refine (fine_calls p _ 0 _ hp).mono ?_; rintro ev w2 ⟨rfl, hw2⟩; rw [hw2]; clear hw2)
        | (go_at_call 54; have hF := fail_cur hp; refine (fail_calls p _ 10 _ hp).mono ?_; rintro ev w3 ⟨rfl, hw3⟩; rw [hw3]; clear hw3))
      go_ret
      exact ⟨rfl, hF.1 10 (by omega), ho1.trans (hF.2 10)⟩
    · rw [if_neg hn]
      obtain ⟨m, rfl⟩ : ∃ m : Nat, n = (m : Int) := ⟨n.toNat, by omega⟩
      have e1 : decide ((m : Int) > (bs'.length : Int)) = false := decide_eq_false hn
      have hm : m ≤ bs'.length := by omega
      go_enter Tryd.func35, Tryd.ntmps35
      go_wp2_with (first
        | (go_at_call 33; refine HI.out.mono ?_; rintro ev w1 ⟨rfl, hc1, ho1⟩; obtain ⟨A, c, hp, hC, hlc, hA⟩ := id hc1; have hc0 : w1.cell? ⟨p, 0, none⟩ = some (.slice A bs'.length c) := (blk_cell hp 0).trans rfl; have hf0 := blk_frozen hp 0; have hCt := Kd.C_take hC hm; rw [List.length_take_of_le hm] at hCt; have hcv := Kd.C_string (P := Tryd.prog) (src := 22) (dst := 9) (e := 5) (c := c) Tryd.underlying22 Tryd.underlying5 Tryd.underlying9 hCt)
        | (go_at_call 53; refine (fine_calls p _ 0 _ hp).mono ?_; rintro ev w2 ⟨rfl, hw2⟩; rw [hw2]; clear hw2))
      · have S := slice_cur (m := m) hp hC hlc hA hm _ rfl
        have hcm : c = m := by omega
        rw [if_pos hcm, show c - m = 0 by omega] at S
        go_ret
        exact ⟨rfl, S.1, ho1.trans S.2⟩
      · have S := slice_cur (m := m) hp hC hlc hA hm _ rfl
        rw [if_neg (by omega)] at S
        go_ret
        exact ⟨rfl, S.1, ho1.trans S.2⟩
  · rw [if_pos he]
    go_enter Tryd.func35, Tryd.ntmps35
    go_wp2_with (first
      | (go_at_call 33; refine HI.out.mono ?_; rintro ev w1 ⟨rfl, hc1, ho1⟩; obtain ⟨A, c, hp, _⟩ := id hc1)
      | (go_at_call 53; refine (fine_calls p _ e' _ hp).mono ?_; rintro ev w2 ⟨rfl, hw2⟩; rw [hw2, decide_eq_false he]; clear hw2))
    go_ret
    exact ⟨rfl, hc1, ho1⟩
end Go.Proofs.YtkkjjogbfjahgaaDoor.Cur
