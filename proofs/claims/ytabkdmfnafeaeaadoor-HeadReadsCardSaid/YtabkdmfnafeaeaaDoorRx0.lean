-- Laid by lay.py, a program of this session's, out of the translation (the kit's printer with additions of ours). Lean checks it.
import Derived.Test.YtabkdmfnafeaeaaDoorProg
import Derived.Test.YtabkdmfnafeaeaaDoorShelf
import Derived.Test.YtabkdmfnafeaeaaDoorScope
import Derived.Lib.SlBytesConst
import Derived.Below
import Derived.Deep.Draws
import Derived.Deep.AppendLies
import Derived.Maps.AppendAt
import Derived.OwnWalk
import Derived.Laws.BytesArg
import Derived.Laws.MakeOwn
import Derived.Laws.OwnMore
import Derived.Deep.OwnRows
import Derived.Tactics
import Derived.Lib.ConvBytes
import Derived.Laws.Slices
import Derived.WalkKit
import Derived.KernelRfl
import Derived.RowKit3
import Derived.Deep.LoopGhost
import Derived.Deep.QuietTactic
import Derived.BigQuiet
import Derived.WideLaws
import Derived.Deep.DeepCutAuto
import Derived.Deep.CutBlock
import Derived.Deep.RegionHeld3
import Derived.Laws.Rows
import Derived.Lib.AppendStr
import Derived.ArgAppend
import Derived.Laws.IdiomCopy
import Derived.OrdersHeld
import Derived.Laws.BitsLemmas
import Derived.RowKit
import Derived.Test.YtabkdmfnafeaeaaDoorWWords
import Derived.Test.YtabkdmfnafeaeaaDoorWLast
import Derived.Test.YtabkdmfnafeaeaaDoorWTab
import Derived.Test.YtabkdmfnafeaeaaDoorWFour
import Derived.Test.YtabkdmfnafeaeaaDoorWQPut
import Derived.Test.YtabkdmfnafeaeaaDoorWApart
import Derived.Test.YtabkdmfnafeaeaaDoorWArr
import Derived.Test.YtabkdmfnafeaeaaDoorWZeros
import Derived.Test.YtabkdmfnafeaeaaDoorWFoot
import Derived.Test.YtabkdmfnafeaeaaDoorWKept
import Derived.Test.YtabkdmfnafeaeaaDoorWShare
import Derived.Test.YtabkdmfnafeaeaaDoorWN
import Derived.Test.YtabkdmfnafeaeaaDoorWFootNe
import Derived.Test.YtabkdmfnafeaeaaDoorWAt
import Derived.Test.YtabkdmfnafeaeaaDoorWEqStruct
import Derived.Test.YtabkdmfnafeaeaaDoorWRepsOne
import Derived.Test.YtabkdmfnafeaeaaDoorWInv
import Derived.Test.YtabkdmfnafeaeaaDoorWInvWords
import Derived.Test.YtabkdmfnafeaeaaDoorWGuard
import Derived.Test.YtabkdmfnafeaeaaDoorWNEv
import Derived.Test.YtabkdmfnafeaeaaDoorWMore
namespace Go.Proofs.YtabkdmfnafeaeaaDoor.R
open Go.RowKit Go.Proofs.YtabkdmfnafeaeaaDoorW.PrintWords Go.Proofs.YtabkdmfnafeaeaaDoorW.PrintLast Go.Proofs.YtabkdmfnafeaeaaDoorW.PrintMore
attribute [local go_sem] max2_int min2_int max_two min_two max_three min_three max_four min_four   -- for this text's walks alone
set_option linter.unusedVariables false
set_option linter.unusedSimpArgs false


/-! the library's variable MaxLen has its cell -/
def ML (w : World) : Prop := ∃ m : Int, w.cell? ⟨0, 0, none⟩ = some (.int .i64 m)
theorem ML.keep {w w' : World} (h : ML w) (hb : Below w.heap.size w w') : ML w' := by
  obtain ⟨m, hm⟩ := h
  refine ⟨m, ?_⟩
  have h0 : 0 < w.heap.size := by
    rcases Nat.eq_zero_or_pos w.heap.size with h' | h'
    · simp [World.cell?, Array.getElem?_eq_none (Nat.le_of_eq h')] at hm
    · exact h'
  have h1 : w'.heap[0]? = w.heap[0]? := hb.block 0 h0
  rw [← hm]
  simp [World.cell?, h1]

/-! '[]byte("..")' of a constant: a row that bears a mark behind its last cell -/
theorem int_inner {P_ : World} {b_ : Nat} {ok_ : Nat → Prop} {xs : List Int} {inner : List Value} (hr : Reps ((Kd.int .u8).M P_ b_ ok_) 1 xs inner) : inner = xs.map (Value.int .u8) := by
  apply List.ext_getElem?
  intro j
  rcases Nat.lt_or_ge j xs.length with hj | hj
  · have h2 := hr.2 j _ (List.getElem?_eq_getElem hj)
    have hl : j < inner.length := by have := hr.1; omega
    have h3 : (inner.drop (j * 1)).take 1 = [Value.int .u8 xs[j]] := h2
    rw [Nat.mul_one, List.drop_eq_getElem_cons hl] at h3
    have h4 : inner[j] = Value.int .u8 xs[j] := by
      have h5 := congrArg List.head? h3
      rw [List.take_succ_cons] at h5
      exact Option.some.inj h5
    rw [List.getElem?_eq_getElem hl, h4]
    simp [List.getElem?_eq_getElem hj]
  · have h3 : inner.length = xs.length := by have := hr.1; omega
    rw [List.getElem?_eq_none (by omega), List.getElem?_eq_none (by rw [List.length_map]; omega)]
theorem marked_V (W : World) (xs : List Int) (e base : Nat) (fr : Nat × Nat) (ok : Nat → Prop) (hok : ok W.heap.size) (hm : xs.length ≤ 9223372036854775807) :
    Kd.V (Kd.int .u8) e (W.alloc (.cells (xs.map (Value.int .u8)).toArray e fr)) base ok (.slice (some ⟨W.heap.size, 0, none⟩) xs.length xs.length) xs := by
  refine Kd.V_mk (Nat.le_refl _) ?_
  intro W' hk
  have hsz : (W.alloc (.cells (xs.map (Value.int .u8)).toArray e fr)).heap.size = W.heap.size + 1 := by
    show (W.heap.push _).size = _
    simp
  have hh : W'.heap[W.heap.size]? = some (.cells (xs.map (Value.int .u8)).toArray e fr) := by
    rw [hk W.heap.size hok (by omega)]
    show (W.heap.push _)[W.heap.size]? = _
    simp
  refine Kd.C_of_reads (d := (0 : Int)) (h1 := fun _ => rfl) ⟨rfl, hm, fun _ => ⟨_, rfl, fun j hj => ?_⟩⟩
  rw [add_plain]
  simp [World.cell?, hh, List.getElem?_eq_getElem hj, List.getD_eq_getElem?_getD]
theorem Kd.V_lit {P : Program} {ops : Array Oper} {Q : Exit → Act → World → Prop} {o : Oper} {rest : List Oper} {a : Act} {w0 W : World} (_d : Kd Int) (base e : Nat) (hgd : o.guard = none) {N : Tmp} (_hd : o.dst = some N) {xs : List Int} {inner : List Value} {ok okp : Nat → Prop}
    (hrun : (execOp a.eval o).run P (W.alloc (.cells inner.toArray e)) = .ok (.value (.slice (some ⟨W.heap.size, 0, none⟩) xs.length xs.length)) (W.alloc (.cells inner.toArray e (inner.length, inner.length + 1))))
    (hrep : Reps ((Kd.int .u8).M W base okp) 1 xs inner) (_hok : ∀ k, okp k → ok k) (hfresh : ok W.heap.size) (HB : Below base w0 W) (hbase : base ≤ W.heap.size) (hm : xs.length ≤ 9223372036854775807)
    (h : ∀ v1 w1, Kd.V (Kd.int .u8) e w1 base ok v1 xs → Below base w0 w1 → True → True → wpList P ops Q rest (a.put o.dst v1) w1) : wpList P ops Q (o :: rest) a (W.alloc (.cells inner.toArray e)) := by
  have hi := int_inner hrep
  subst hi
  exact Kd.event_run hgd hrun (h _ _ (marked_V W xs e base _ ok hfresh hm) (HB.alloc hbase _) trivial trivial)

/-! a row made of a string: it bears the conversion's mark behind its last cell; it may be written -/
def MRow (W : World) (b e : Nat) (l : List UInt8) : Prop :=
  ∃ pad : List Value, W.heap[b]? = some (.cells (l.map (fun x => Value.int .u8 (x.toNat : Int)) ++ pad).toArray e (l.length + pad.length, l.length + pad.length + 1))
theorem MRow.cell {W : World} {b e : Nat} {l : List UInt8} (h : MRow W b e l) (i : Nat) (hi : i < l.length) : W.cell? ⟨b, i, none⟩ = some (.int .u8 ((l[i]).toNat : Int)) := by
  obtain ⟨pad, h⟩ := h
  simp [World.cell?, h, List.getElem?_append, hi]
theorem MRow.frozen {W : World} {b e : Nat} {l : List UInt8} (h : MRow W b e l) (i : Nat) (hi : i < l.length) : W.frozen? ⟨b, i, none⟩ = false := by
  obtain ⟨pad, h⟩ := h
  simp [World.frozen?, h]
  omega
theorem MRow.set {W : World} {b e : Nat} {l : List UInt8} (h : MRow W b e l) (i : Nat) (hi : i < l.length) (x : UInt8) : MRow (W.setCell ⟨b, i, none⟩ (.int .u8 (x.toNat : Int))) b e (l.set i x) := by
  obtain ⟨pad, h⟩ := h
  refine ⟨pad, ?_⟩
  simp [World.setCell, Array.getElem?_modify, h, List.map_set, hi]
theorem MRow.below {W W' : World} {b e : Nat} {l : List UInt8} (h : MRow W b e l) (hb : Below W.heap.size W W') : MRow W' b e l := by
  obtain ⟨pad, h⟩ := h
  exact ⟨pad, (hb.block b (Array.getElem?_eq_some_iff.1 h).1).trans h⟩
theorem MRow.new (w : World) (e : TypeId) (s : ByteArray) : MRow (Lib.bytesWorld w e s) w.heap.size e s.data.toList := by
  refine ⟨List.replicate (grownCap w s.size 0 e - s.size) (.int .u8 0), ?_⟩
  rw [Lib.bytesWorld_at_new]
  have hs : s.data.toList.length = s.size := by simp
  congr 2
  · apply Array.ext'
    simp [Lib.bytesCells]
  · simp [Lib.bytesCells]
theorem bytes_below (w : World) (e : TypeId) (s : ByteArray) : Below w.heap.size w (Lib.bytesWorld w e s) := by
  refine ⟨rfl, rfl, rfl, ?_, fun k hk => Lib.bytesWorld_at_old w e s k hk⟩
  rw [Lib.bytesWorld_size]
  omega
theorem MRow.C {W : World} {b e : Nat} {l : List UInt8} (h : MRow W b e l) (hl : l.length ≤ 9223372036854775807) : Kd.C (Kd.int .u8) W (some ⟨b, 0, none⟩) (l.map (fun x => (x.toNat : Int))).length (l.map (fun x => (x.toNat : Int))) := by
  refine Kd.C_of_reads (d := (0 : Int)) (h1 := fun _ => rfl) ⟨rfl, by rw [List.length_map]; exact hl, fun _ => ⟨_, rfl, fun j hj => ?_⟩⟩
  rw [List.length_map] at hj
  rw [add_plain, h.cell j hj]
  simp [List.getD_eq_getElem?_getD, hj]
theorem MRow.string {P : Program} {W : World} {b e : Nat} {l : List UInt8} {src dst : TypeId} (hs : P.underlying src = some (.slice e)) (he : P.underlying e = some (.int .u8)) (hd : P.underlying dst = some .string)
    (h : MRow W b e l) (hl : l.length ≤ 9223372036854775807) (c : Nat) : (convert src dst (.slice (some ⟨b, 0, none⟩) l.length c)).run P W = .ok (.string ⟨l.toArray⟩) W := by
  have h2 := Kd.C_string (P := P) (c := c) hs he hd (h.C hl)
  have h3 : strOfNums (l.map (fun x => (x.toNat : Int))) = ⟨l.toArray⟩ := by
    unfold strOfNums
    congr 2
    rw [List.map_map]
    conv => rhs; rw [← List.map_id l]
    apply List.map_congr_left
    intro x _
    simp
  rw [List.length_map, h3] at h2
  exact h2
theorem bytes_V (W : World) (s : ByteArray) (e base : Nat) (ok : Nat → Prop) (hok : ok W.heap.size) (hm : s.size ≤ 9223372036854775807) :
    Kd.V (Kd.int .u8) e (Lib.bytesWorld W e s) base ok (.slice (some ⟨W.heap.size, 0, none⟩) s.size (grownCap W s.size 0 e)) (bytesOf s) := by
  have hl : s.data.toList.length = s.size := by simp
  have hlen := bytesOf_length s
  rw [← hlen]
  refine Kd.V_mk (by rw [hlen]; exact grownCap_ge W s.size 0 e) ?_
  intro W' hk
  have hM : MRow W' W.heap.size e s.data.toList := by
    obtain ⟨pad, h⟩ := MRow.new W e s
    exact ⟨pad, (hk W.heap.size hok (by rw [Lib.bytesWorld_size]; omega)).trans h⟩
  exact hM.C (by rw [hl]; exact hm)
theorem Kd.V_bytes {P : Program} {ops : Array Oper} {Q : Exit → Act → World → Prop} {o : Oper} {rest : List Oper} {a : Act} {w0 W : World} {s : ByteArray} (base e : Nat) (hgd : o.guard = none) {N : Tmp} (_hd : o.dst = some N) {ok : Nat → Prop}
    (hrun : (execOp a.eval o).run P W = .ok (.value (.slice (some ⟨W.heap.size, 0, none⟩) s.size (grownCap W s.size 0 e))) (Lib.bytesWorld W e s))
    (hfresh : ok W.heap.size) (HB : Below base w0 W) (hbase : base ≤ W.heap.size) (hm : s.size ≤ 9223372036854775807)
    (h : ∀ v1 w1, Kd.V (Kd.int .u8) e w1 base ok v1 (bytesOf s) → Below base w0 w1 → True → True → wpList P ops Q rest (a.put o.dst v1) w1) : wpList P ops Q (o :: rest) a W :=
  Kd.event_run hgd hrun (h _ _ (bytes_V W s e base ok hfresh hm) (HB.trans ((bytes_below W e s).mono hbase)) trivial trivial)

/-! floats (float64): a word of 64 bits, as a Nat -/
def Kd.float : Kd Nat := Kd.scalar (Value.float .f64) (fun _ => rfl)
theorem Kd.heap_float : Kd.Heap Kd.float := ⟨fun _ h => h⟩
theorem Kd.at_float {w : World} {A : Option Addr} {n : Nat} {xs : List Nat} (h : Kd.float.C w A n xs) (i : Int) (h0 : 0 ≤ i) (h1 : i < n) : ∃ ad, A = some ad ∧ w.cell? (ad.add i.toNat) = some (.float .f64 (rdOf 0 xs i)) :=
  ReadsOf.at_ (Kd.reads_of_C (enc := Value.float .f64) (d := (0 : Nat)) (h1 := fun _ => rfl) h) i h0 h1
theorem Kd.foot_float {w : World} {ad : Addr} {n : Nat} {l : List Nat} (h : Kd.float.C w (some ad) n l) (i : Int) (h0 : 0 ≤ i) (h1 : i < n) : w.cell? (ad.add i.toNat) = some (.float .f64 (rdOf 0 l i)) := by
  obtain ⟨ad', he, hc⟩ := Kd.at_float h i h0 h1
  injection he with he
  subst he
  exact hc
def fadd (a b : Nat) : Nat := (Ieee.double.add a b).getD 0
def fsub (a b : Nat) : Nat := (Ieee.double.sub a b).getD 0
def fmul (a b : Nat) : Nat := (Ieee.double.mul a b).getD 0
def fquo (a b : Nat) : Nat := (Ieee.double.div a b).getD 0
def faddOk (a b : Nat) : Bool := (Ieee.double.add a b).isSome
def fsubOk (a b : Nat) : Bool := (Ieee.double.sub a b).isSome
def fmulOk (a b : Nat) : Bool := (Ieee.double.mul a b).isSome
def fquoOk (a b : Nat) : Bool := (Ieee.double.div a b).isSome
def feql (a b : Nat) : Bool := Ieee.double.order a b == some .eq
def fneq (a b : Nat) : Bool := Ieee.double.order a b != some .eq
def flss (a b : Nat) : Bool := Ieee.double.order a b == some .lt
def fleq (a b : Nat) : Bool := Ieee.double.order a b == some .lt || Ieee.double.order a b == some .eq
def fgtr (a b : Nat) : Bool := Ieee.double.order a b == some .gt
def fgeq (a b : Nat) : Bool := Ieee.double.order a b == some .gt || Ieee.double.order a b == some .eq
def fneg (a : Nat) : Nat := Op.negFloat .f64 a
def fint (n : Int) : Nat := FloatKind.f64.nearest n
section
variable {P : Program} (w : World) (t : TypeId) (a b : Nat)
theorem fbin_eql : binOp .eql t (.float .f64 a) (.float .f64 b) = pure (.bool (feql a b)) := by simp [binOp, Op.equal, Op.equalIn, Op.floatCmp, feql, FloatKind.format]
theorem fbin_neq : binOp .neq t (.float .f64 a) (.float .f64 b) = pure (.bool (fneq a b)) := by simp [binOp, Op.floatCmp, fneq, FloatKind.format]
theorem fbin_lss : binOp .lss t (.float .f64 a) (.float .f64 b) = pure (.bool (flss a b)) := by simp [binOp, Op.floatCmp, flss, FloatKind.format]
theorem fbin_leq : binOp .leq t (.float .f64 a) (.float .f64 b) = pure (.bool (fleq a b)) := by simp [binOp, Op.floatCmp, fleq, FloatKind.format]
theorem fbin_gtr : binOp .gtr t (.float .f64 a) (.float .f64 b) = pure (.bool (fgtr a b)) := by simp [binOp, Op.floatCmp, fgtr, FloatKind.format]
theorem fbin_geq : binOp .geq t (.float .f64 a) (.float .f64 b) = pure (.bool (fgeq a b)) := by simp [binOp, Op.floatCmp, fgeq, FloatKind.format]
theorem frun_add (h : faddOk a b = true) : (binOp .add t (.float .f64 a) (.float .f64 b)).run P w = .ok (.float .f64 (fadd a b)) w := by
  obtain ⟨r, hr⟩ := Option.isSome_iff_exists.1 h
  simp [binOp, Op.floatArith, FloatKind.format, fadd, hr]
theorem frun_sub (h : fsubOk a b = true) : (binOp .sub t (.float .f64 a) (.float .f64 b)).run P w = .ok (.float .f64 (fsub a b)) w := by
  obtain ⟨r, hr⟩ := Option.isSome_iff_exists.1 h
  simp [binOp, Op.floatArith, FloatKind.format, fsub, hr]
theorem frun_mul (h : fmulOk a b = true) : (binOp .mul t (.float .f64 a) (.float .f64 b)).run P w = .ok (.float .f64 (fmul a b)) w := by
  obtain ⟨r, hr⟩ := Option.isSome_iff_exists.1 h
  simp [binOp, Op.floatArith, FloatKind.format, fmul, hr]
theorem frun_quo (h : fquoOk a b = true) : (binOp .quo t (.float .f64 a) (.float .f64 b)).run P w = .ok (.float .f64 (fquo a b)) w := by
  obtain ⟨r, hr⟩ := Option.isSome_iff_exists.1 h
  simp [binOp, Op.floatArith, FloatKind.format, fquo, hr]
theorem frun_store (x : Addr) (m : Mode) : (store x (.float .f64 a) m).run P w = stored P w x (.float .f64 a) m := run_store P w x _ m rfl
theorem fun_neg : Op.unary .neg (.float .f64 a) = pure (.float .f64 (fneg a)) := rfl
theorem fcv_int {s : TypeId} {k : IntKind} (hs : P.underlying s = some (.int k)) (ht : P.underlying t = some (.float .f64)) (n : Int) : (convert s t (.int k n)).run P w = .ok (.float .f64 (fint n)) w := by
  simp [convert, run_underlying hs, run_underlying ht, Conv.intToFloat, fint]
theorem fcv_same {s : TypeId} (hs : P.underlying s = some (.float .f64)) (ht : P.underlying t = some (.float .f64)) : (convert s t (.float .f64 a)).run P w = .ok (.float .f64 a) w := by
  simp [convert, run_underlying hs, run_underlying ht, Conv.floatToFloat]
end
set_option maxRecDepth 100000 in
theorem fb92 (n : Nat) (w : World) : (callFunc 92 #[.float .f64 n]).run Tryd.prog w = .ok (.value (.int .u64 n)) w := by rfl
set_option maxRecDepth 100000 in
theorem fb116 (n : Int) (w : World) : (callFunc 116 #[.int .u64 n]).run Tryd.prog w = .ok (.value (.float .f64 n.toNat)) w := by rfl



def errW : Option Int → Value
  | none => .nilIface
  | some c => .iface 0 (.int .i64 c)
theorem errW_none : errW none = .nilIface := rfl
theorem errW_some (c : Int) : errW (some c) = .iface 0 (.int .i64 c) := rfl

theorem info5 : (Tryd.prog.info? 5).map (fun i => (i.zero, i.size, i.bytes)) = some (some (.int .u8 0), 1, 1) := by kernel_rfl
theorem info9 : (Tryd.prog.info? 9).map (fun i => (i.zero, i.size, i.bytes)) = some (some (.string ⟨#[]⟩), 1, 16) := by kernel_rfl
theorem info38 : (Tryd.prog.info? 38).map (fun i => (i.zero, i.size, i.bytes)) = some (some (.agg #[(.string ⟨#[]⟩), (.string ⟨#[]⟩)]), 2, 32) := by kernel_rfl
-- the values' own types
def rd_L1 (xs : List (List ByteArray)) (i : Int) : (List ByteArray) := xs.getD i.toNat ([] : List ByteArray)
theorem at_L1 {w : World} {A : Option Addr} {n : Nat} {xs : List (List ByteArray)} (h : Kd.C (Kd.slice 9 Kd.string) w A n xs) (i : Int) (h0 : 0 ≤ i) (h1 : i < n) : ∃ ad A0 c0, A = some ad ∧ w.cell? (ad.add i.toNat) = some (.slice A0 (rd_L1 xs i).length c0) ∧ (rd_L1 xs i).length ≤ c0 ∧ Kd.string.C w A0 (rd_L1 xs i).length (rd_L1 xs i) := by
  obtain ⟨ad, c, e, _, hK, hc0⟩ := Kd.C_get h ([] : List ByteArray) i h0 h1
  have hc : ∀ j u, c[j]? = some u → w.cell? (ad.add (i.toNat * 1 + j)) = some u := hc0
  obtain ⟨A0, c0, rfl, l0, g0⟩ := hK
  exact ⟨ad, A0, c0, e, by have hq := hc 0 _ rfl; rwa [Nat.mul_one, Nat.add_zero] at hq, l0, g0⟩

def rd_L4 (xs : List (List Int)) (i : Int) : (List Int) := xs.getD i.toNat ([] : List Int)
theorem at_L4 {w : World} {A : Option Addr} {n : Nat} {xs : List (List Int)} (h : Kd.C (Kd.slice 5 (Kd.int .u8)) w A n xs) (i : Int) (h0 : 0 ≤ i) (h1 : i < n) : ∃ ad A0 c0, A = some ad ∧ w.cell? (ad.add i.toNat) = some (.slice A0 (rd_L4 xs i).length c0) ∧ (rd_L4 xs i).length ≤ c0 ∧ (Kd.int .u8).C w A0 (rd_L4 xs i).length (rd_L4 xs i) := by
  obtain ⟨ad, c, e, _, hK, hc0⟩ := Kd.C_get h ([] : List Int) i h0 h1
  have hc : ∀ j u, c[j]? = some u → w.cell? (ad.add (i.toNat * 1 + j)) = some u := hc0
  obtain ⟨A0, c0, rfl, l0, g0⟩ := hK
  exact ⟨ad, A0, c0, e, by have hq := hc 0 _ rfl; rwa [Nat.mul_one, Nat.add_zero] at hq, l0, g0⟩

/-! #### struct type 38 -/
structure S38 where
  f0 : ByteArray
  f1 : ByteArray
def z38 : S38 := ⟨(⟨#[]⟩ : ByteArray), (⟨#[]⟩ : ByteArray)⟩
def k38 : Kd S38 := Kd.iso (Kd.pair Kd.string Kd.string) (fun x : S38 => (x.f0, x.f1))
theorem k38_open {w : World} {x : S38} {cs : List Value} (h : k38.K w x cs) : cs = [.string x.f0, .string x.f1] := by
  obtain ⟨_, _, rfl, rfl, rfl⟩ := h
  exact rfl
theorem k38_openM {w : World} {base : Nat} {ok : Nat → Prop} {x : S38} {cs : List Value} (h : k38.M w base ok x cs) : cs = [.string x.f0, .string x.f1] := by
  obtain ⟨_, _, rfl, rfl, rfl⟩ := h
  exact rfl
theorem k38_mk (w : World) (x : S38)  : k38.K w x [.string x.f0, .string x.f1] := ⟨[.string x.f0], [.string x.f1], rfl, rfl, rfl⟩
theorem k38_mkM (w : World) (base : Nat) (ok : Nat → Prop) (x : S38)  : k38.M w base ok x [.string x.f0, .string x.f1] := ⟨[.string x.f0], [.string x.f1], rfl, rfl, rfl⟩
def rd_T38 (xs : List S38) (i : Int) : S38 := xs.getD i.toNat z38
theorem at_T38 {w : World} {A : Option Addr} {n : Nat} {xs : List S38} (h : Kd.C k38 w A n xs) (i : Int) (h0 : 0 ≤ i) (h1 : i < n) : ∃ ad , A = some ad ∧ w.cell? (ad.add (i.toNat * 2)) = some (.string (rd_T38 xs i).f0) ∧ w.cell? ⟨(ad.add (i.toNat * 2)).block, (ad.add (i.toNat * 2)).off + 1, none⟩ = some (.string (rd_T38 xs i).f1) := by
  obtain ⟨ad, c, e, _, hK, hc0⟩ := Kd.C_get h z38 i h0 h1
  have hc : ∀ j u, c[j]? = some u → w.cell? (ad.add (i.toNat * 2 + j)) = some u := hc0
  obtain rfl := k38_open hK
  exact ⟨ad, e, hc 0 _ rfl, by rw [← add_field _ _ 1 (by omega)]; exact hc 1 _ rfl⟩

end Go.Proofs.YtabkdmfnafeaeaaDoor.R
