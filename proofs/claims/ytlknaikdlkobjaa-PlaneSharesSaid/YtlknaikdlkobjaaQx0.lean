-- Laid by lay.py, a program of this session's, out of the translation (the kit's printer with additions of ours). Lean checks it.
import Derived.Test.YtlknaikdlkobjaaProg
import Derived.Lib.SlBytesConst
import Derived.Below
import Derived.Deep.Draws
import Derived.Deep.AppendLies
import Derived.Maps.AppendAt
import Derived.OwnWalk
import Derived.Laws.BytesArg
import Derived.Laws.MakeOwn
import Derived.Laws.OwnMore
import Derived.Deep.OwnRows
import Derived.Tactics
import Derived.Lib.ConvBytes
import Derived.Laws.Slices
import Derived.WalkKit
import Derived.KernelRfl
import Derived.RowKit3
import Derived.Deep.LoopGhost
import Derived.Deep.QuietTactic
import Derived.BigQuiet
import Derived.WideLaws
import Derived.Deep.DeepCutAuto
import Derived.Deep.CutBlock
import Derived.Deep.RegionHeld3
import Derived.Laws.Rows
import Derived.Lib.AppendStr
import Derived.ArgAppend
import Derived.Laws.IdiomCopy
import Derived.OrdersHeld
import Derived.Laws.BitsLemmas
import Derived.RowKit
import Derived.Test.YtlknaikdlkobjaaWWords
import Derived.Test.YtlknaikdlkobjaaWLast
import Derived.Test.YtlknaikdlkobjaaWTab
import Derived.Test.YtlknaikdlkobjaaWFour
import Derived.Test.YtlknaikdlkobjaaWQPut
import Derived.Test.YtlknaikdlkobjaaWApart
import Derived.Test.YtlknaikdlkobjaaWArr
import Derived.Test.YtlknaikdlkobjaaWZeros
import Derived.Test.YtlknaikdlkobjaaWFoot
import Derived.Test.YtlknaikdlkobjaaWKept
import Derived.Test.YtlknaikdlkobjaaWShare
import Derived.Test.YtlknaikdlkobjaaWN
import Derived.Test.YtlknaikdlkobjaaWFootNe
import Derived.Test.YtlknaikdlkobjaaWAt
import Derived.Test.YtlknaikdlkobjaaWEqStruct
import Derived.Test.YtlknaikdlkobjaaWRepsOne
import Derived.Test.YtlknaikdlkobjaaWInv
import Derived.Test.YtlknaikdlkobjaaWInvWords
import Derived.Test.YtlknaikdlkobjaaWGuard
import Derived.Test.YtlknaikdlkobjaaWNEv
import Derived.Test.YtlknaikdlkobjaaWMore
namespace Go.Proofs.Ytlknaikdlkobjaa.Q
open Go.RowKit Go.Proofs.YtlknaikdlkobjaaW.PrintWords Go.Proofs.YtlknaikdlkobjaaW.PrintLast Go.Proofs.YtlknaikdlkobjaaW.PrintMore
attribute [local go_sem] max2_int min2_int max_two min_two max_three min_three max_four min_four   -- for this text's walks alone
set_option linter.unusedVariables false
set_option linter.unusedSimpArgs false


/-! floats (float64): a word of 64 bits, as a Nat -/
def Kd.float : Kd Nat := Kd.scalar (Value.float .f64) (fun _ => rfl)
theorem Kd.heap_float : Kd.Heap Kd.float := ⟨fun _ h => h⟩
theorem Kd.at_float {w : World} {A : Option Addr} {n : Nat} {xs : List Nat} (h : Kd.float.C w A n xs) (i : Int) (h0 : 0 ≤ i) (h1 : i < n) : ∃ ad, A = some ad ∧ w.cell? (ad.add i.toNat) = some (.float .f64 (rdOf 0 xs i)) :=
  ReadsOf.at_ (Kd.reads_of_C (enc := Value.float .f64) (d := (0 : Nat)) (h1 := fun _ => rfl) h) i h0 h1
theorem Kd.foot_float {w : World} {ad : Addr} {n : Nat} {l : List Nat} (h : Kd.float.C w (some ad) n l) (i : Int) (h0 : 0 ≤ i) (h1 : i < n) : w.cell? (ad.add i.toNat) = some (.float .f64 (rdOf 0 l i)) := by
  obtain ⟨ad', he, hc⟩ := Kd.at_float h i h0 h1
  injection he with he
  subst he
  exact hc
def fadd (a b : Nat) : Nat := (Ieee.double.add a b).getD 0
def fsub (a b : Nat) : Nat := (Ieee.double.sub a b).getD 0
def fmul (a b : Nat) : Nat := (Ieee.double.mul a b).getD 0
def fquo (a b : Nat) : Nat := (Ieee.double.div a b).getD 0
def faddOk (a b : Nat) : Bool := (Ieee.double.add a b).isSome
def fsubOk (a b : Nat) : Bool := (Ieee.double.sub a b).isSome
def fmulOk (a b : Nat) : Bool := (Ieee.double.mul a b).isSome
def fquoOk (a b : Nat) : Bool := (Ieee.double.div a b).isSome
def feql (a b : Nat) : Bool := Ieee.double.order a b == some .eq
def fneq (a b : Nat) : Bool := Ieee.double.order a b != some .eq
def flss (a b : Nat) : Bool := Ieee.double.order a b == some .lt
def fleq (a b : Nat) : Bool := Ieee.double.order a b == some .lt || Ieee.double.order a b == some .eq
def fgtr (a b : Nat) : Bool := Ieee.double.order a b == some .gt
def fgeq (a b : Nat) : Bool := Ieee.double.order a b == some .gt || Ieee.double.order a b == some .eq
def fneg (a : Nat) : Nat := Op.negFloat .f64 a
def fint (n : Int) : Nat := FloatKind.f64.nearest n
section
variable {P : Program} (w : World) (t : TypeId) (a b : Nat)
theorem fbin_eql : binOp .eql t (.float .f64 a) (.float .f64 b) = pure (.bool (feql a b)) := by simp [binOp, Op.equal, Op.equalIn, Op.floatCmp, feql, FloatKind.format]
theorem fbin_neq : binOp .neq t (.float .f64 a) (.float .f64 b) = pure (.bool (fneq a b)) := by simp [binOp, Op.floatCmp, fneq, FloatKind.format]
theorem fbin_lss : binOp .lss t (.float .f64 a) (.float .f64 b) = pure (.bool (flss a b)) := by simp [binOp, Op.floatCmp, flss, FloatKind.format]
theorem fbin_leq : binOp .leq t (.float .f64 a) (.float .f64 b) = pure (.bool (fleq a b)) := by simp [binOp, Op.floatCmp, fleq, FloatKind.format]
theorem fbin_gtr : binOp .gtr t (.float .f64 a) (.float .f64 b) = pure (.bool (fgtr a b)) := by simp [binOp, Op.floatCmp, fgtr, FloatKind.format]
theorem fbin_geq : binOp .geq t (.float .f64 a) (.float .f64 b) = pure (.bool (fgeq a b)) := by simp [binOp, Op.floatCmp, fgeq, FloatKind.format]
theorem frun_add (h : faddOk a b = true) : (binOp .add t (.float .f64 a) (.float .f64 b)).run P w = .ok (.float .f64 (fadd a b)) w := by
  obtain ⟨r, hr⟩ := Option.isSome_iff_exists.1 h
  simp [binOp, Op.floatArith, FloatKind.format, fadd, hr]
theorem frun_sub (h : fsubOk a b = true) : (binOp .sub t (.float .f64 a) (.float .f64 b)).run P w = .ok (.float .f64 (fsub a b)) w := by
  obtain ⟨r, hr⟩ := Option.isSome_iff_exists.1 h
  simp [binOp, Op.floatArith, FloatKind.format, fsub, hr]
theorem frun_mul (h : fmulOk a b = true) : (binOp .mul t (.float .f64 a) (.float .f64 b)).run P w = .ok (.float .f64 (fmul a b)) w := by
  obtain ⟨r, hr⟩ := Option.isSome_iff_exists.1 h
  simp [binOp, Op.floatArith, FloatKind.format, fmul, hr]
theorem frun_quo (h : fquoOk a b = true) : (binOp .quo t (.float .f64 a) (.float .f64 b)).run P w = .ok (.float .f64 (fquo a b)) w := by
  obtain ⟨r, hr⟩ := Option.isSome_iff_exists.1 h
  simp [binOp, Op.floatArith, FloatKind.format, fquo, hr]
theorem frun_store (x : Addr) (m : Mode) : (store x (.float .f64 a) m).run P w = stored P w x (.float .f64 a) m := run_store P w x _ m rfl
theorem fun_neg : Op.unary .neg (.float .f64 a) = pure (.float .f64 (fneg a)) := rfl
theorem fcv_int {s : TypeId} {k : IntKind} (hs : P.underlying s = some (.int k)) (ht : P.underlying t = some (.float .f64)) (n : Int) : (convert s t (.int k n)).run P w = .ok (.float .f64 (fint n)) w := by
  simp [convert, run_underlying hs, run_underlying ht, Conv.intToFloat, fint]
theorem fcv_same {s : TypeId} (hs : P.underlying s = some (.float .f64)) (ht : P.underlying t = some (.float .f64)) : (convert s t (.float .f64 a)).run P w = .ok (.float .f64 a) w := by
  simp [convert, run_underlying hs, run_underlying ht, Conv.floatToFloat]
end
theorem fb27 (n : Nat) (w : World) : (callFunc 27 #[.float .f64 n]).run Try.prog w = .ok (.value (.int .u64 n)) w := by rfl
theorem fb28 (n : Int) (w : World) : (callFunc 28 #[.int .u64 n]).run Try.prog w = .ok (.value (.float .f64 n.toNat)) w := by rfl



def errW : Option Int → Value
  | none => .nilIface
  | some c => .iface 0 (.int .i64 c)
theorem errW_none : errW none = .nilIface := rfl
theorem errW_some (c : Int) : errW (some c) = .iface 0 (.int .i64 c) := rfl

theorem info30 : (Try.prog.info? 30).map (fun i => (i.zero, i.size, i.bytes)) = some (some (.agg #[(.string ⟨#[]⟩), (.string ⟨#[]⟩), (.string ⟨#[]⟩)]), 3, 48) := by kernel_rfl
theorem info38 : (Try.prog.info? 38).map (fun i => (i.zero, i.size, i.bytes)) = some (some (.float .f64 0), 1, 8) := by kernel_rfl
theorem info44 : (Try.prog.info? 44).map (fun i => (i.zero, i.size, i.bytes)) = some (some (.agg #[(.string ⟨#[]⟩), (.float .f64 0)]), 2, 24) := by kernel_rfl
theorem info53 : (Try.prog.info? 53).map (fun i => (i.zero, i.size, i.bytes)) = some (some (.agg #[(.string ⟨#[]⟩), (.slice none 0 0)]), 2, 40) := by kernel_rfl
-- the values' own types
/-! #### struct type 30 -/
structure S30 where
  f0 : ByteArray
  f1 : ByteArray
  f2 : ByteArray
def z30 : S30 := ⟨(⟨#[]⟩ : ByteArray), (⟨#[]⟩ : ByteArray), (⟨#[]⟩ : ByteArray)⟩
def k30 : Kd S30 := Kd.iso (Kd.pair Kd.string (Kd.pair Kd.string Kd.string)) (fun x : S30 => (x.f0, x.f1, x.f2))
theorem k30_open {w : World} {x : S30} {cs : List Value} (h : k30.K w x cs) : cs = [.string x.f0, .string x.f1, .string x.f2] := by
  obtain ⟨_, _, rfl, rfl, ⟨_, _, rfl, rfl, rfl⟩⟩ := h
  exact rfl
theorem k30_openM {w : World} {base : Nat} {ok : Nat → Prop} {x : S30} {cs : List Value} (h : k30.M w base ok x cs) : cs = [.string x.f0, .string x.f1, .string x.f2] := by
  obtain ⟨_, _, rfl, rfl, ⟨_, _, rfl, rfl, rfl⟩⟩ := h
  exact rfl
theorem k30_mk (w : World) (x : S30)  : k30.K w x [.string x.f0, .string x.f1, .string x.f2] := ⟨[.string x.f0], [.string x.f1, .string x.f2], rfl, rfl, ⟨[.string x.f1], [.string x.f2], rfl, rfl, rfl⟩⟩
theorem k30_mkM (w : World) (base : Nat) (ok : Nat → Prop) (x : S30)  : k30.M w base ok x [.string x.f0, .string x.f1, .string x.f2] := ⟨[.string x.f0], [.string x.f1, .string x.f2], rfl, rfl, ⟨[.string x.f1], [.string x.f2], rfl, rfl, rfl⟩⟩
def rd_T30 (xs : List S30) (i : Int) : S30 := xs.getD i.toNat z30
theorem at_T30 {w : World} {A : Option Addr} {n : Nat} {xs : List S30} (h : Kd.C k30 w A n xs) (i : Int) (h0 : 0 ≤ i) (h1 : i < n) : ∃ ad , A = some ad ∧ w.cell? (ad.add (i.toNat * 3)) = some (.string (rd_T30 xs i).f0) ∧ w.cell? ⟨(ad.add (i.toNat * 3)).block, (ad.add (i.toNat * 3)).off + 1, none⟩ = some (.string (rd_T30 xs i).f1) ∧ w.cell? ⟨(ad.add (i.toNat * 3)).block, (ad.add (i.toNat * 3)).off + 2, none⟩ = some (.string (rd_T30 xs i).f2) := by
  obtain ⟨ad, c, e, _, hK, hc0⟩ := Kd.C_get h z30 i h0 h1
  have hc : ∀ j u, c[j]? = some u → w.cell? (ad.add (i.toNat * 3 + j)) = some u := hc0
  obtain rfl := k30_open hK
  exact ⟨ad, e, hc 0 _ rfl, by rw [← add_field _ _ 1 (by omega)]; exact hc 1 _ rfl, by rw [← add_field _ _ 2 (by omega)]; exact hc 2 _ rfl⟩

/-! #### struct type 44 -/
structure S44 where
  f0 : ByteArray
  f1 : Nat
def z44 : S44 := ⟨(⟨#[]⟩ : ByteArray), (0 : Nat)⟩
def k44 : Kd S44 := Kd.iso (Kd.pair Kd.string Kd.float) (fun x : S44 => (x.f0, x.f1))
theorem k44_open {w : World} {x : S44} {cs : List Value} (h : k44.K w x cs) : cs = [.string x.f0, .float .f64 x.f1] := by
  obtain ⟨_, _, rfl, rfl, rfl⟩ := h
  exact rfl
theorem k44_openM {w : World} {base : Nat} {ok : Nat → Prop} {x : S44} {cs : List Value} (h : k44.M w base ok x cs) : cs = [.string x.f0, .float .f64 x.f1] := by
  obtain ⟨_, _, rfl, rfl, rfl⟩ := h
  exact rfl
theorem k44_mk (w : World) (x : S44)  : k44.K w x [.string x.f0, .float .f64 x.f1] := ⟨[.string x.f0], [.float .f64 x.f1], rfl, rfl, rfl⟩
theorem k44_mkM (w : World) (base : Nat) (ok : Nat → Prop) (x : S44)  : k44.M w base ok x [.string x.f0, .float .f64 x.f1] := ⟨[.string x.f0], [.float .f64 x.f1], rfl, rfl, rfl⟩
def rd_T44 (xs : List S44) (i : Int) : S44 := xs.getD i.toNat z44
theorem at_T44 {w : World} {A : Option Addr} {n : Nat} {xs : List S44} (h : Kd.C k44 w A n xs) (i : Int) (h0 : 0 ≤ i) (h1 : i < n) : ∃ ad , A = some ad ∧ w.cell? (ad.add (i.toNat * 2)) = some (.string (rd_T44 xs i).f0) ∧ w.cell? ⟨(ad.add (i.toNat * 2)).block, (ad.add (i.toNat * 2)).off + 1, none⟩ = some (.float .f64 (rd_T44 xs i).f1) := by
  obtain ⟨ad, c, e, _, hK, hc0⟩ := Kd.C_get h z44 i h0 h1
  have hc : ∀ j u, c[j]? = some u → w.cell? (ad.add (i.toNat * 2 + j)) = some u := hc0
  obtain rfl := k44_open hK
  exact ⟨ad, e, hc 0 _ rfl, by rw [← add_field _ _ 1 (by omega)]; exact hc 1 _ rfl⟩

def rd_L4 (xs : List (List S44)) (i : Int) : (List S44) := xs.getD i.toNat ([] : List S44)
theorem at_L4 {w : World} {A : Option Addr} {n : Nat} {xs : List (List S44)} (h : Kd.C (Kd.slice 44 k44) w A n xs) (i : Int) (h0 : 0 ≤ i) (h1 : i < n) : ∃ ad A0 c0, A = some ad ∧ w.cell? (ad.add i.toNat) = some (.slice A0 (rd_L4 xs i).length c0) ∧ (rd_L4 xs i).length ≤ c0 ∧ k44.C w A0 (rd_L4 xs i).length (rd_L4 xs i) := by
  obtain ⟨ad, c, e, _, hK, hc0⟩ := Kd.C_get h ([] : List S44) i h0 h1
  have hc : ∀ j u, c[j]? = some u → w.cell? (ad.add (i.toNat * 1 + j)) = some u := hc0
  obtain ⟨A0, c0, rfl, l0, g0⟩ := hK
  exact ⟨ad, A0, c0, e, by have hq := hc 0 _ rfl; rwa [Nat.mul_one, Nat.add_zero] at hq, l0, g0⟩

/-! #### struct type 53 -/
structure S53 where
  f0 : ByteArray
  f1 : (List S44)
def z53 : S53 := ⟨(⟨#[]⟩ : ByteArray), ([] : List S44)⟩
def k53 : Kd S53 := Kd.iso (Kd.pair Kd.string (Kd.slice 44 k44)) (fun x : S53 => (x.f0, x.f1))
theorem k53_open {w : World} {x : S53} {cs : List Value} (h : k53.K w x cs) : ∃ A1 c1, cs = [.string x.f0, .slice A1 x.f1.length c1] ∧ x.f1.length ≤ c1 ∧ k44.C w A1 x.f1.length x.f1 := by
  obtain ⟨_, _, rfl, rfl, ⟨A1, c1, rfl, l1, g1⟩⟩ := h
  exact ⟨A1, c1, rfl, l1, g1⟩
theorem k53_openM {w : World} {base : Nat} {ok : Nat → Prop} {x : S53} {cs : List Value} (h : k53.M w base ok x cs) : ∃ v1, cs = [.string x.f0, v1] ∧ k44.R 44 w base ok v1 x.f1 := by
  obtain ⟨_, _, rfl, rfl, ⟨v1, rfl, g1⟩⟩ := h
  exact ⟨v1, rfl, g1⟩
theorem k53_mk (w : World) (x : S53) {A1 : Option Addr} {c1 : Nat} (l1 : x.f1.length ≤ c1) (g1 : k44.C w A1 x.f1.length x.f1) : k53.K w x [.string x.f0, .slice A1 x.f1.length c1] := ⟨[.string x.f0], [.slice A1 x.f1.length c1], rfl, rfl, ⟨A1, c1, rfl, l1, g1⟩⟩
theorem k53_mkM (w : World) (base : Nat) (ok : Nat → Prop) (x : S53) {v1 : Value} (g1 : k44.R 44 w base ok v1 x.f1) : k53.M w base ok x [.string x.f0, v1] := ⟨[.string x.f0], [v1], rfl, rfl, ⟨v1, rfl, g1⟩⟩
def rd_T53 (xs : List S53) (i : Int) : S53 := xs.getD i.toNat z53
theorem at_T53 {w : World} {A : Option Addr} {n : Nat} {xs : List S53} (h : Kd.C k53 w A n xs) (i : Int) (h0 : 0 ≤ i) (h1 : i < n) : ∃ ad A1 c1, A = some ad ∧ w.cell? (ad.add (i.toNat * 2)) = some (.string (rd_T53 xs i).f0) ∧ w.cell? ⟨(ad.add (i.toNat * 2)).block, (ad.add (i.toNat * 2)).off + 1, none⟩ = some (.slice A1 (rd_T53 xs i).f1.length c1) ∧ (rd_T53 xs i).f1.length ≤ c1 ∧ k44.C w A1 (rd_T53 xs i).f1.length (rd_T53 xs i).f1 := by
  obtain ⟨ad, c, e, _, hK, hc0⟩ := Kd.C_get h z53 i h0 h1
  have hc : ∀ j u, c[j]? = some u → w.cell? (ad.add (i.toNat * 2 + j)) = some u := hc0
  obtain ⟨A1, c1, rfl, l1, g1⟩ := k53_open hK
  exact ⟨ad, A1, c1, e, hc 0 _ rfl, by rw [← add_field _ _ 1 (by omega)]; exact hc 1 _ rfl, l1, g1⟩

end Go.Proofs.Ytlknaikdlkobjaa.Q
