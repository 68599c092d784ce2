/- A part of the proofs over trace (TrPlain): contracts of the program's functions and plain laws. Conditions: those that each theorem states. -/
import Derived.Test.YtdpomgfibjlehaaDoorTrFine
import Derived.Test.YtdpomgfibjlehaaDoorTrRef
import Derived.Test.YtdpomgfibjlehaaDoorTrDraw
import Derived.Test.YtdpomgfibjlehaaDoorPTrx8
import Derived.Test.YtdpomgfibjlehaaDoorPTrx9
import Derived.Test.YtdpomgfibjlehaaDoorPTrx11
import Derived.Test.YtdpomgfibjlehaaDoorPTrx12
import Derived.Test.YtdpomgfibjlehaaDoorPTrx14
import Derived.Deep.Slices
import Derived.Deep.Fields
import Derived.ChangeArms
import Derived.ChangeOld
set_option linter.unusedVariables false
set_option linter.unusedSimpArgs false
/- The plain law of trace.Put: the bytes of events; the reference's are the same. The law's own example. -/
namespace Go.Proofs.YtdpomgfibjlehaaDoor.Tr
open Go Go.Proofs Go.RowKit Go.Lib Go.Proofs.CodBytes Go.Proofs.YtdpomgfibjlehaaDoorW.PrintWords Go.Proofs.YtdpomgfibjlehaaDoorW.PrintLast Go.Proofs.YtdpomgfibjlehaaDoorW.PrintMore Go.Proofs.YtdpomgfibjlehaaDoor.PTr Go.Proofs.YtdpomgfibjlehaaDoor.CodSame

theorem up {α : Type} {f : Nat → Option α} (hm : ∀ k, LeO (f k) (f (k + 1))) {k k' : Nat} {r : α} (h : f k = some r) (hk : k ≤ k') : f k' = some r := by
  induction hk with
  | refl => exact h
  | step _ ih => exact hm _ _ ih

/-- the numbers of an event are of their kinds -/
def EvOk (x : S46) : Prop := I64 x.f0 ∧ I64 x.f1 ∧ I64 x.f2 ∧ (0 ≤ x.f3 ∧ x.f3 < 18446744073709551616) ∧ I64 x.f4 ∧ I64 x.f6
def numsE (last : Int) (x : S46) : List Int := [wrap64 (x.f4 - last), x.f0, x.f1, x.f2, wrap64 x.f3, x.f6]
theorem i64_wrap (v : Int) : I64 (wrap64 v) := by unfold I64 wrap64; omega
theorem numsE_ok (last : Int) (x : S46) (h : EvOk x) : ∀ v ∈ numsE last x, I64 v := by
  obtain ⟨h0, h1, h2, h3, h4, h6⟩ := h
  intro v hv
  simp only [numsE, List.mem_cons, List.not_mem_nil, or_false] at hv
  rcases hv with rfl | rfl | rfl | rfl | rfl | rfl
  · exact i64_wrap _
  · exact h0
  · exact h1
  · exact h2
  · exact i64_wrap _
  · exact h6
def layN (ns : List Int) : List Int := ns.flatMap bytesI
theorem layN_cons (v : Int) (r : List Int) : layN (v :: r) = bytesI v ++ layN r := rfl
theorem layN_append (a b : List Int) : layN (a ++ b) = layN a ++ layN b := by unfold layN; rw [List.flatMap_append]
theorem layN_len : ∀ (ns : List Int), (layN ns).length ≤ 10 * ns.length
  | [] => Nat.le_refl _
  | v :: r => by rw [layN_cons, List.length_append, List.length_cons]; have := bytesI_length v; have := layN_len r; omega
theorem layN_bytes : ∀ (ns : List Int), (∀ v ∈ ns, I64 v) → ∀ x ∈ layN ns, 0 ≤ x ∧ x < 256
  | [], _, x, hx => by simp [layN] at hx
  | v :: r, h, x, hx => by
    rw [layN_cons] at hx
    rcases List.mem_append.1 hx with hx | hx
    · exact bytesI_bytes v (h v (List.mem_cons_self ..)) x hx
    · exact layN_bytes r (fun y hy => h y (List.mem_cons_of_mem _ hy)) x hx
def putG : Int → List S46 → List Int
  | _, [] => []
  | last, x :: r => numsE last x ++ putG x.f4 r
theorem putG_len : ∀ (last : Int) (l : List S46), (putG last l).length = 6 * l.length
  | _, [] => rfl
  | last, x :: r => by rw [putG, List.length_append, putG_len x.f4 r, List.length_cons]; simp only [numsE, List.length_cons, List.length_nil]; omega
theorem putG_ok : ∀ (last : Int) (l : List S46), (∀ x ∈ l, EvOk x) → ∀ v ∈ putG last l, I64 v
  | _, [], _, v, hv => by simp [putG] at hv
  | last, x :: r, h, v, hv => by
    rw [putG] at hv
    rcases List.mem_append.1 hv with hv | hv
    · exact numsE_ok last x (h x (List.mem_cons_self ..)) v hv
    · exact putG_ok x.f4 r (fun y hy => h y (List.mem_cons_of_mem _ hy)) v hv
def putN (l : List S46) : List Int := (l.length : Int) :: putG 0 l
def putL (l : List S46) : List Int := if fineL l = true then layN (putN l) else []
theorem putN_ok (l : List S46) (hl : l.length < 65536) (h : ∀ x ∈ l, EvOk x) : ∀ v ∈ putN l, I64 v := by
  intro v hv
  unfold putN at hv
  rcases List.mem_cons.1 hv with rfl | hv
  · unfold I64; omega
  · exact putG_ok 0 l h v hv
theorem putL_len (l : List S46) : (putL l).length ≤ 10 + 60 * l.length := by
  unfold putL
  split
  · have h1 := layN_len (putN l)
    have h2 : (putN l).length = 6 * l.length + 1 := by unfold putN; rw [List.length_cons, putG_len]
    omega
  · simp
theorem putL_bytes (l : List S46) (hl : l.length < 65536) (h : ∀ x ∈ l, EvOk x) : ∀ v ∈ putL l, 0 ≤ v ∧ v < 256 := by
  unfold putL
  split
  · exact layN_bytes _ (putN_ok l hl h)
  · intro v hv; cases hv

theorem rd_nat (ns : List Int) (i : Nat) (hi : i < ns.length) : rd ns (i : Int) = ns[i] := by
  unfold rd; rw [Int.toNat_natCast, List.getD_eq_getElem?_getD, List.getElem?_eq_getElem hi]; rfl
theorem wrap_nat (i : Nat) (hi : i < 4611686018427387904) : wrap64 ((i : Int) + 1) = ((i + 1 : Nat) : Int) := by unfold wrap64; omega

theorem lay_l (ns : List Int) (hn : ns.length < 65536) (h : ∀ v ∈ ns, I64 v) : ∀ (d i k : Nat) (pre : List Int), i + d = ns.length → d + 11 ≤ k → pre.length + 10 * d < 1099511627776 →
    trace_lay.l0 k pre ns (ns.length : Int) (i : Int) = some (pre ++ layN (ns.drop i))
  | 0, i, k, pre, hi, hk, hp => by
    obtain ⟨k, rfl⟩ : ∃ m, k = m + 1 := ⟨k - 1, by omega⟩
    rw [trace_lay.l0, if_neg (by omega), List.drop_eq_nil_of_le (by omega)]
    unfold layN; simp
  | d + 1, i, k, pre, hi, hk, hp => by
    obtain ⟨k, rfl⟩ : ∃ m, k = m + 1 := ⟨k - 1, by omega⟩
    have hlt : i < ns.length := by omega
    have hb := bytesI_length ns[i]
    rw [trace_lay.l0, if_pos (by omega), if_pos (by omega), if_pos (by omega), rd_nat ns i hlt, putInt_f k pre ns[i] (h _ (List.getElem_mem hlt)) (by omega) (by omega), Option.bind_some, wrap_nat i (by omega),
      lay_l ns hn h d (i + 1) k (pre ++ bytesI ns[i]) (by omega) (by omega) (by rw [List.length_append]; omega)]
    rw [List.drop_eq_getElem_cons hlt, layN_cons, List.append_assoc]
theorem lay_f (ns : List Int) (hn : ns.length < 65536) (h : ∀ v ∈ ns, I64 v) (k : Nat) (pre : List Int) (hk : ns.length + 11 ≤ k) (hp : pre.length + 10 * ns.length < 1099511627776) : trace_lay.f k pre ns = some (pre ++ layN ns) := by
  unfold trace_lay.f
  have := lay_l ns hn h ns.length 0 k pre (by omega) (by omega) hp
  rw [List.drop_zero] at this
  exact this

theorem put_l (l : List S46) (hn : l.length < 65536) (h : ∀ x ∈ l, EvOk x) : ∀ (d i k : Nat) (pre : List Int) (last : Int), i + d = l.length → d + 20 ≤ k → pre.length + 60 * d < 1000000000000 →
    trace_Put.l0 k pre last l (l.length : Int) (i : Int) = some (pre ++ layN (putG last (l.drop i)))
  | 0, i, k, pre, last, hi, hk, hp => by
    obtain ⟨k, rfl⟩ : ∃ m, k = m + 1 := ⟨k - 1, by omega⟩
    rw [trace_Put.l0, if_neg (by omega), List.drop_eq_nil_of_le (by omega)]
    simp [layN, putG]
  | d + 1, i, k, pre, last, hi, hk, hp => by
    obtain ⟨k, rfl⟩ : ∃ m, k = m + 1 := ⟨k - 1, by omega⟩
    have hlt : i < l.length := by omega
    have he : rd_T46 l (i : Int) = l[i] := rd46 l i hlt
    have hx := h _ (List.getElem_mem hlt)
    have hb := layN_len (numsE last l[i])
    have hb6 : (numsE last l[i]).length = 6 := rfl
    rw [trace_Put.l0, if_pos (by omega), if_pos (by omega), if_pos (by omega), he,
      show ([wrap64 ((l[i]).f4 - last), (l[i]).f0, (l[i]).f1, (l[i]).f2, wrap64 ((l[i]).f3), (l[i]).f6] : List Int) = numsE last l[i] from rfl,
      lay_f (numsE last l[i]) (by omega) (numsE_ok last _ hx) k pre (by omega) (by omega), Option.bind_some, wrap_nat i (by omega),
      put_l l hn h d (i + 1) k _ (l[i]).f4 (by omega) (by omega) (by rw [List.length_append]; omega)]
    rw [List.drop_eq_getElem_cons hlt, putG, layN_append, List.append_assoc]
theorem put_f' (l : List S46) (hn : l.length < 65536) (h : ∀ x ∈ l, EvOk x) (k : Nat) (hk : l.length + 30 ≤ k) : trace_Put.f k l = some (putL l) := by
  unfold trace_Put.f trace_fine.f putL
  rw [if_pos (by omega), Option.bind_some]
  by_cases hf : fineL l = true
  · rw [if_pos hf, if_pos hf, lay_f [(l.length : Int)] (by simp) (by intro v hv; simp only [List.mem_singleton] at hv; subst hv; unfold I64; omega) k [] (by simp only [List.length_cons, List.length_nil]; omega) (by simp), Option.bind_some]
    have := put_l l hn h l.length 0 k ([] ++ layN [(l.length : Int)]) 0 (by omega) (by omega) (by have := layN_len [(l.length : Int)]; simp only [List.nil_append, List.length_cons, List.length_nil] at *; omega)
    rw [List.drop_zero, List.nil_append] at this
    rw [List.nil_append]
    refine this.trans ?_
    unfold putN
    rw [layN_cons, show layN [] = [] from rfl, List.append_nil, layN_cons]
  · rw [if_neg hf, if_neg hf]

/- the reference's -/
theorem refput_l1 (rs : List S35) (idx : Int) (ns : List Int) (hn : ns.length = 6) (h : ∀ v ∈ ns, I64 v) (a0 a1 a2 a3 a4 : Int) (a5 : Bool) (a6 : Int) : ∀ (d i k : Nat) (pre : List Int), i + d = 6 → d + 12 ≤ k → pre.length + 10 * d < 1099511627776 →
    berthingref32_Put.l1 k rs (strOfNums pre) idx ns (i : Int) a0 a1 a2 a3 a4 a5 a6 = berthingref32_Put.l0 (k - d - 1) rs (strOfNums (pre ++ layN (ns.drop i))) a4 (wrap64 (idx + 1))
  | 0, i, k, pre, hi, hk, hp => by
    obtain ⟨k, rfl⟩ : ∃ m, k = m + 1 := ⟨k - 1, by omega⟩
    rw [berthingref32_Put.l1, if_neg (by omega), List.drop_eq_nil_of_le (by omega)]
    simp [layN]
  | d + 1, i, k, pre, hi, hk, hp => by
    obtain ⟨k, rfl⟩ : ∃ m, k = m + 1 := ⟨k - 1, by omega⟩
    have hlt : i < ns.length := by omega
    have hb := bytesI_length ns[i]
    rw [berthingref32_Put.l1, if_pos (by omega), if_pos (by omega), if_pos (by omega), rd_nat ns i hlt, refPutInt_f k pre ns[i] (h _ (List.getElem_mem hlt)) (by omega) (by omega), Option.bind_some, wrap_nat i (by omega),
      refput_l1 rs idx ns hn h a0 a1 a2 a3 a4 a5 a6 d (i + 1) k (pre ++ bytesI ns[i]) (by omega) (by omega) (by rw [List.length_append]; omega)]
    rw [List.drop_eq_getElem_cons hlt, layN_cons, List.append_assoc, show k - d - 1 = k + 1 - (d + 1) - 1 by omega]
theorem refput_l (l : List S46) (hn : l.length < 65536) (h : ∀ x ∈ l, EvOk x) : ∀ (d i k : Nat) (pre : List Int) (last : Int), i + d = l.length → 8 * d + 30 ≤ k → pre.length + 60 * d < 1000000000000 →
    berthingref32_Put.l0 k (l.map toR) (strOfNums pre) last (i : Int) = some (strOfNums (pre ++ layN (putG last (l.drop i))))
  | 0, i, k, pre, last, hi, hk, hp => by
    obtain ⟨k, rfl⟩ : ∃ m, k = m + 1 := ⟨k - 1, by omega⟩
    rw [berthingref32_Put.l0, if_neg (by rw [List.length_map]; omega), List.drop_eq_nil_of_le (by omega)]
    simp [layN, putG]
  | d + 1, i, k, pre, last, hi, hk, hp => by
    obtain ⟨k, rfl⟩ : ∃ m, k = m + 1 := ⟨k - 1, by omega⟩
    have hlt : i < l.length := by omega
    have he : rd_T35 (l.map toR) (i : Int) = toR l[i] := rd35 l i hlt
    have hx := h _ (List.getElem_mem hlt)
    have hb := layN_len (numsE last l[i])
    have hb6 : (numsE last l[i]).length = 6 := rfl
    have h1 := refput_l1 (l.map toR) (i : Int) (numsE last l[i]) rfl (numsE_ok last _ hx) (toR l[i]).f0 (toR l[i]).f1 (toR l[i]).f2 (toR l[i]).f3 (toR l[i]).f4 (toR l[i]).f5 (toR l[i]).f6 6 0 k pre rfl (by omega) (by omega)
    rw [List.drop_zero] at h1
    rw [berthingref32_Put.l0, if_pos (by rw [List.length_map]; omega), if_pos (by omega), he,
      show ([wrap64 ((toR l[i]).f4 - last), (toR l[i]).f0, (toR l[i]).f1, (toR l[i]).f2, wrap64 ((toR l[i]).f3), (toR l[i]).f6] : List Int) = numsE last l[i] from rfl]
    refine h1.trans ?_
    rw [wrap_nat i (by omega)]
    refine (refput_l l hn h d (i + 1) (k - 6 - 1) _ (toR l[i]).f4 (by omega) (by omega) (by rw [List.length_append]; omega)).trans ?_
    rw [List.drop_eq_getElem_cons hlt, putG, layN_append, List.append_assoc]; rfl
theorem refput_f' (l : List S46) (hn : l.length < 65536) (h : ∀ x ∈ l, EvOk x) (k : Nat) (hk : 8 * l.length + 50 ≤ k) : berthingref32_Put.f k (l.map toR) = some (strOfNums (putL l)) := by
  unfold berthingref32_Put.f putL
  rw [ref_right l (by omega) k (by omega), Option.bind_some]
  have ho : okL l = fineL l := rfl
  by_cases hf : fineL l = true
  · rw [if_pos (ho.trans hf), if_pos hf, List.length_map]
    have h0 := refPutInt_f k [] (l.length : Int) (by unfold I64; omega) (by omega) (by simp)
    rw [str_nil] at h0
    rw [h0, Option.bind_some, List.nil_append]
    have hb := bytesI_length (l.length : Int)
    have := refput_l l hn h l.length 0 k (bytesI (l.length : Int)) 0 (by omega) (by omega) (by omega)
    rw [List.drop_zero] at this
    refine this.trans ?_
    unfold putN
    rw [layN_cons]
  · rw [if_neg (fun hh => hf (ho.symm.trans hh)), if_neg hf]; rfl

theorem own_l (l : List S46) (hn : l.length < 1000000) : ∀ (d i k : Nat), i + d = l.length → d < k → berthinglaw32_Own.l0 k l ((l.take i).map toR) (i : Int) = some (l.map toR)
  | 0, i, k, hi, hk => by
    obtain ⟨k, rfl⟩ : ∃ m, k = m + 1 := ⟨k - 1, by omega⟩
    rw [berthinglaw32_Own.l0, if_neg (by omega), List.take_of_length_le (by omega)]
  | d + 1, i, k, hi, hk => by
    obtain ⟨k, rfl⟩ : ∃ m, k = m + 1 := ⟨k - 1, by omega⟩
    have hlt : i < l.length := by omega
    have he : rd_T46 l (i : Int) = l[i] := rd46 l i hlt
    rw [berthinglaw32_Own.l0, if_pos (by omega), if_pos (by omega), if_pos (by rw [List.length_map, List.length_take]; omega), he, wrap_nat i (by omega),
      show ([(⟨(l[i]).f0, (l[i]).f1, (l[i]).f2, (l[i]).f3, (l[i]).f4, (l[i]).f5, (l[i]).f6⟩ : S35)] : List S35) = [l[i]].map toR from rfl, ← List.map_append, List.take_append_getElem hlt,
      own_l l hn d (i + 1) k (by omega) (by omega)]
theorem own_f (l : List S46) (hn : l.length < 1000000) (k : Nat) (hk : l.length < k) : berthinglaw32_Own.f k l = some (l.map toR) := own_l l hn l.length 0 k (by omega) hk

theorem one30 : berthinglaw32_one.f 30 = some true := by
  have h1 : trace_Put.f 30 [(⟨12, 0, 1, 3, 1, false, 0⟩ : S46), (⟨12, 0, 1, 3, 3, true, 2⟩ : S46)] = some (putL [(⟨12, 0, 1, 3, 1, false, 0⟩ : S46), (⟨12, 0, 1, 3, 3, true, 2⟩ : S46)]) := by kernel_rfl
  have h2 : trace_Read.f (putL [(⟨12, 0, 1, 3, 1, false, 0⟩ : S46), (⟨12, 0, 1, 3, 3, true, 2⟩ : S46)]) = some ([(⟨12, 0, 1, 3, 1, false, 0⟩ : S46), (⟨12, 0, 1, 3, 3, true, 2⟩ : S46)], 0) := by kernel_rfl
  have h3 : trace_Draw.f [(⟨12, 0, 1, 3, 1, false, 0⟩ : S46), (⟨12, 0, 1, 3, 3, true, 2⟩ : S46)] 0 2 0 4 = some (⟨#[46, 50, 50, 46, 10, 46, 50, 50, 46, 10]⟩ : ByteArray) := by kernel_rfl
  have h4 : trace_Busy.f [(⟨12, 0, 1, 3, 1, false, 0⟩ : S46), (⟨12, 0, 1, 3, 3, true, 2⟩ : S46)] 0 2 = some 2 := by kernel_rfl
  unfold berthinglaw32_one.f
  rw [Option.bind_some, h1, Option.bind_some, h2, Option.bind_some, h3, Option.bind_some, if_pos (by rw [ByteArray.toList_eq]), h4, Option.bind_some]
  rfl
theorem one_f (k : Nat) (hk : 30 ≤ k) : berthinglaw32_one.f k = some true := up (f := fun k => berthinglaw32_one.f k) (fun k => berthinglaw32_one.mono k) one30 hk
end Go.Proofs.YtdpomgfibjlehaaDoor.Tr

namespace Go.Proofs.YtdpomgfibjlehaaDoor.ArgOpen
open Go.RowKit Go.ChangeShapes Go.WideShapes Go.Deep Go.Proofs.YtdpomgfibjlehaaDoorW.PrintWords Go.Proofs.YtdpomgfibjlehaaDoorW.PrintLast Go.Proofs.YtdpomgfibjlehaaDoorW.PrintMore
variable {H : Type} {enc : TypeId × Value → H} {P : Program} {w : World} {t e : TypeId}

/-- What reads at type t is a value of the kind d, and Q holds of it. -/
def Opens {H : Type} (enc : TypeId × Value → H) (P : Program) (w : World) {α : Type} (t : TypeId) (d : Kd α) (Q : α → Prop) : Prop :=
  ∀ (fuel : Nat) (cs : List Value) (x : DataW H × List MemPlace), DataW.trod enc P w 0 (fun _ => true) true fuel t cs = some x → ∃ y, d.K w y cs ∧ Q y

theorem opens_int {k : IntKind} (ht : P.underlying t = some (.int k)) : Opens enc P w t (Kd.int k) (fun n => (Lit.int k n).wf = true) := by
  intro fuel cs x h
  obtain ⟨n, rfl, _, hw⟩ := DataW.trod_int ht h
  exact ⟨n, rfl, hw⟩

/-- A slice of what opens. -/
theorem opens_row {α : Type} {d : Kd α} {Q : α → Prop} (ht : P.underlying t = some (.slice e)) (hd : Opens enc P w e d Q) (hsz : P.cellsOf e = d.sz) (z : α) {a : Option Addr} {len cap : Nat} {dd : DataW H} {ps : List MemPlace}
    (h : DataW.Trod enc P w 0 (fun _ => true) true t (.slice a len cap) dd ps) : ∃ ys : List α, ys.length = len ∧ len ≤ cap ∧ d.C w a len ys ∧ ∀ y ∈ ys, Q y := by
  obtain ⟨fuel, hf⟩ := h
  rcases open_slice ht hf with ⟨hcs, _⟩ | ⟨a', len', cap', m, n, D, Pl, hcs, _, hl, hm, hmm, _, hi⟩
  · simp [Value.cells] at hcs
    obtain ⟨rfl, rfl, rfl⟩ := hcs
    exact ⟨[], rfl, Nat.le_refl _, ⟨rfl, by omega, fun h0 => by omega⟩, by simp⟩
  · simp [Value.cells] at hcs
    obtain ⟨rfl, rfl, rfl⟩ := hcs
    have hlm : len ≤ m := by rw [hmm]; split <;> omega
    have hex : ∀ i, ∃ y : α, i < len → (∃ c, c.length = d.sz ∧ d.K w y c ∧ ∀ j u, c[j]? = some u → w.cell? (a'.add (i * d.sz + j)) = some u) ∧ Q y := by
      intro i
      by_cases hil : i < len
      · obtain ⟨cs', hc, htr⟩ := hi i (by omega)
        rw [hsz] at hc
        obtain ⟨y, hK, hQ⟩ := hd n cs' _ htr
        obtain ⟨_, hcl, hat⟩ := World.cells?_some hc
        refine ⟨y, fun _ => ⟨⟨cs', d.K_len hK, hK, fun j u hu => ?_⟩, hQ⟩⟩
        have hjl : j < cs'.length := (List.getElem?_eq_some_iff.1 hu).1
        have := hat j (by rw [← d.K_len hK]; exact hjl)
        rw [Go.Deep.add_add] at this
        rw [this, hu]
      · exact ⟨z, fun h => absurd h hil⟩
    refine ⟨(List.range len).map fun i => Classical.choose (hex i), by simp, hl, ⟨by simp, by unfold maxLen at hm; omega, fun _ => ⟨a', rfl, fun j p hj => ?_⟩⟩, fun y hy => ?_⟩
    · have hjl : j < len := by have := (List.getElem?_eq_some_iff.1 hj).1; simpa using this
      have hp : Classical.choose (hex j) = p := by simpa [hjl] using hj
      rw [← hp]
      exact (Classical.choose_spec (hex j) hjl).1
    · obtain ⟨i, hi', rfl⟩ := List.mem_map.1 hy
      exact (Classical.choose_spec (hex i) (List.mem_range.1 hi')).2

/-- A struct of two fields of one cell. -/
theorem opens_two {f0 f1 : Field} {fuel : Nat} {cs : List Value} {x : DataW H × List MemPlace} (hs : P.underlying t = some (.struct #[f0, f1])) (hone : oneCellFields P #[f0, f1] = true) (hC : P.cellsOf t = 2)
    (h : DataW.trod enc P w 0 (fun _ => true) true fuel t cs = some x) : ∃ (c0 c1 : Value) (n : Nat) (y0 y1 : DataW H × List MemPlace), cs = [c0, c1] ∧ DataW.trod enc P w 0 (fun _ => true) true n f0.type [c0] = some y0 ∧ DataW.trod enc P w 0 (fun _ => true) true n f1.type [c1] = some y1 := by
  obtain ⟨xs, n, _, _, hlen, hxl, hg⟩ := DataW.trod_struct hs h
  rw [hC] at hlen
  match cs, hlen, xs, hxl with
  | [c0, c1], _, [y0, y1], _ =>
    obtain ⟨o0, k0⟩ := hone_of hone 0 f0 rfl
    obtain ⟨o1, k1⟩ := hone_of hone 1 f1 rfl
    exact ⟨c0, c1, n, y0, y1, rfl, by simpa [o0, k0] using hg 0 f0 rfl, by simpa [o1, k1] using hg 1 f1 rfl⟩

end Go.Proofs.YtdpomgfibjlehaaDoor.ArgOpen
namespace Go.Proofs.YtdpomgfibjlehaaDoor.Tr
open Go Go.Proofs Go.RowKit Go.ChangeShapes Go.WideShapes Go.Deep Go.Proofs.YtdpomgfibjlehaaDoorW.PrintWords Go.Proofs.YtdpomgfibjlehaaDoorW.PrintLast Go.Proofs.YtdpomgfibjlehaaDoorW.PrintMore Go.Proofs.YtdpomgfibjlehaaDoor.PTr Go.Proofs.YtdpomgfibjlehaaDoor.ArgOpen
theorem bd64 {z : Int} (h : (Lit.int .i64 z).wf = true) : CodSame.I64 z := by simp [Lit.wf, IntKind.min, IntKind.max, IntKind.signed, IntKind.bits] at h; unfold CodSame.I64; omega
theorem bdu64 {z : Int} (h : (Lit.int .u64 z).wf = true) : 0 ≤ z ∧ z < 18446744073709551616 := by simp [Lit.wf, IntKind.min, IntKind.max, IntKind.signed, IntKind.bits] at h; omega
theorem bdu8 {z : Int} (h : (Lit.int .u8 z).wf = true) : 0 ≤ z ∧ z < 256 := by simp [Lit.wf, IntKind.min, IntKind.max, IntKind.signed, IntKind.bits] at h; omega
set_option maxRecDepth 100000 in
/-- an event that came in -/
theorem opensEv {H : Type} {enc : TypeId × Value → H} {w : World} : Opens enc Tryd.prog w 46 k46 EvOk := by
  intro fuel cs x h
  obtain ⟨xs, n, _, _, hlen, hxl, hg⟩ := DataW.trod_struct Tryd.underlying46 h
  have h7 : Tryd.prog.cellsOf 46 = 7 := by kernel_rfl
  have h3 : Tryd.prog.cellsOf 3 = 1 := by kernel_rfl
  have h4 : Tryd.prog.cellsOf 4 = 1 := by kernel_rfl
  have h38 : Tryd.prog.cellsOf 38 = 1 := by kernel_rfl
  have h44 : Tryd.prog.cellsOf 44 = 1 := by kernel_rfl
  rw [h7] at hlen
  match cs, hlen, xs, hxl with
  | [c0, c1, c2, c3, c4, c5, c6], _, [y0, y1, y2, y3, y4, y5, y6], _ =>
    have g0 : DataW.trod enc Tryd.prog w 0 (fun _ => true) true n 3 (List.take (Tryd.prog.cellsOf 3) (List.drop 0 [c0, c1, c2, c3, c4, c5, c6])) = some y0 := hg 0 _ rfl
    have g1 : DataW.trod enc Tryd.prog w 0 (fun _ => true) true n 3 (List.take (Tryd.prog.cellsOf 3) (List.drop 1 [c0, c1, c2, c3, c4, c5, c6])) = some y1 := hg 1 _ rfl
    have g2 : DataW.trod enc Tryd.prog w 0 (fun _ => true) true n 3 (List.take (Tryd.prog.cellsOf 3) (List.drop 2 [c0, c1, c2, c3, c4, c5, c6])) = some y2 := hg 2 _ rfl
    have g3 : DataW.trod enc Tryd.prog w 0 (fun _ => true) true n 44 (List.take (Tryd.prog.cellsOf 44) (List.drop 3 [c0, c1, c2, c3, c4, c5, c6])) = some y3 := hg 3 _ rfl
    have g4 : DataW.trod enc Tryd.prog w 0 (fun _ => true) true n 38 (List.take (Tryd.prog.cellsOf 38) (List.drop 4 [c0, c1, c2, c3, c4, c5, c6])) = some y4 := hg 4 _ rfl
    have g5 : DataW.trod enc Tryd.prog w 0 (fun _ => true) true n 4 (List.take (Tryd.prog.cellsOf 4) (List.drop 5 [c0, c1, c2, c3, c4, c5, c6])) = some y5 := hg 5 _ rfl
    have g6 : DataW.trod enc Tryd.prog w 0 (fun _ => true) true n 3 (List.take (Tryd.prog.cellsOf 3) (List.drop 6 [c0, c1, c2, c3, c4, c5, c6])) = some y6 := hg 6 _ rfl
    rw [h3] at g0 g1 g2 g6
    rw [h44] at g3
    rw [h38] at g4
    rw [h4] at g5
    obtain ⟨z0, e0, _, u0⟩ := DataW.trod_int Tryd.underlying3 g0
    obtain ⟨z1, e1, _, u1⟩ := DataW.trod_int Tryd.underlying3 g1
    obtain ⟨z2, e2, _, u2⟩ := DataW.trod_int Tryd.underlying3 g2
    obtain ⟨z3, e3, _, u3⟩ := DataW.trod_int Tryd.underlying44 g3
    obtain ⟨z4, e4, _, u4⟩ := DataW.trod_int Tryd.underlying38 g4
    obtain ⟨z5, e5, _⟩ := DataW.trod_bool Tryd.underlying4 g5
    obtain ⟨z6, e6, _, u6⟩ := DataW.trod_int Tryd.underlying3 g6
    simp at e0 e1 e2 e3 e4 e5 e6
    subst e0 e1 e2 e3 e4 e5 e6
    exact ⟨⟨z0, z1, z2, z3, z4, z5, z6⟩, k46_mk w ⟨z0, z1, z2, z3, z4, z5, z6⟩, bd64 u0, bd64 u1, bd64 u2, bdu64 u3, bd64 u4, bd64 u6⟩
def zEv : S46 := ⟨0, 0, 0, 0, 0, false, 0⟩
end Go.Proofs.YtdpomgfibjlehaaDoor.Tr
