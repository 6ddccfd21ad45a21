-- Laid by lay.py, a program of this session's, out of the translation (the kit's printer with additions of ours). Lean checks it.
import Derived.Test.YtlknaikdlkobjaaQx0
import Derived.Test.YtlknaikdlkobjaaOpens
import Derived.KernelRfl
namespace Go.Proofs.Ytlknaikdlkobjaa.Q
open Go.RowKit Go.Proofs.YtlknaikdlkobjaaW.PrintWords Go.Proofs.YtlknaikdlkobjaaW.PrintLast Go.Proofs.Ytlknaikdlkobjaa.opens
set_option linter.unusedVariables false
def ok30 (x : S30) : Prop := x.f0.size ≤ 9223372036854775807 ∧ x.f1.size ≤ 9223372036854775807 ∧ x.f2.size ≤ 9223372036854775807
def mu30 (x : S30) : Nat := ((x.f0.size + 1) + ((x.f1.size + 1) + (x.f2.size + 1))) + 1
theorem o30 : Rd Try.prog 30 k30 ok30 mu30 := by
  have h := Rd.iso (fun x : S30 => (x.f0, x.f1, x.f2)) (fun p : ByteArray × ByteArray × ByteArray => (⟨p.1, p.2.1, p.2.2⟩ : S30)) (fun _ => rfl) (Rd.structS (d := (Kd.pair Kd.string (Kd.pair Kd.string Kd.string))) Try.underlying30 (by kernel_rfl) (RdF.cons rfl (by kernel_rfl) (Rd.string Try.underlying9) (by decide) (RdF.cons rfl (by kernel_rfl) (Rd.string Try.underlying9) (by decide) (RdF.one rfl (by kernel_rfl) (Rd.string Try.underlying9)))))
  exact h
def ok44 (x : S44) : Prop := x.f0.size ≤ 9223372036854775807 ∧ (Lit.float .f64 x.f1).wf = true
def mu44 (x : S44) : Nat := ((x.f0.size + 1) + 1) + 1
theorem o44 : Rd Try.prog 44 k44 ok44 mu44 := by
  have h := Rd.iso (fun x : S44 => (x.f0, x.f1)) (fun p : ByteArray × Nat => (⟨p.1, p.2⟩ : S44)) (fun _ => rfl) (Rd.structS (d := (Kd.pair Kd.string Kd.float)) Try.underlying44 (by kernel_rfl) (RdF.cons rfl (by kernel_rfl) (Rd.string Try.underlying9) (by decide) (RdF.one rfl (by kernel_rfl) (Rd.float Try.underlying38))))
  exact h
def ok53 (x : S53) : Prop := x.f0.size ≤ 9223372036854775807 ∧ (∀ y ∈ x.f1, ok44 y)
def mu53 (x : S53) : Nat := ((x.f0.size + 1) + ((x.f1.map (fun y => mu44 y)).sum + 1)) + 1
theorem o53 : Rd Try.prog 53 k53 ok53 mu53 := by
  have h := Rd.iso (fun x : S53 => (x.f0, x.f1)) (fun p : ByteArray × List (S44) => (⟨p.1, p.2⟩ : S53)) (fun _ => rfl) (Rd.structS (d := (Kd.pair Kd.string (Kd.slice 44 k44))) Try.underlying53 (by kernel_rfl) (RdF.cons rfl (by kernel_rfl) (Rd.string Try.underlying9) (by decide) (RdF.one rfl (by kernel_rfl) (Rd.slice Try.underlying37 (by kernel_rfl) o44))))
  exact h
structure S25 where
  f0 : Int
  f1 : List (S30)
  f2 : List (S53)
def k25 : Kd S25 := Kd.iso (Kd.pair (Kd.int .i64) (Kd.pair (Kd.slice 30 k30) (Kd.slice 53 k53))) (fun x : S25 => (x.f0, x.f1, x.f2))
theorem k25_open {w : World} {x : S25} {cs : List Value} (h : k25.K w x cs) : ∃ A1 c1 A2 c2, cs = [.int .i64 x.f0, .slice A1 x.f1.length c1, .slice A2 x.f2.length c2] ∧ x.f1.length ≤ c1 ∧ k30.C w A1 x.f1.length x.f1 ∧ x.f2.length ≤ c2 ∧ k53.C w A2 x.f2.length x.f2 := by
  obtain ⟨_, _, rfl, rfl, ⟨_, _, rfl, ⟨A1, c1, rfl, l1, g1⟩, ⟨A2, c2, rfl, l2, g2⟩⟩⟩ := h
  exact ⟨A1, c1, A2, c2, rfl, l1, g1, l2, g2⟩
def ok25 (x : S25) : Prop := (Lit.int .i64 x.f0).wf = true ∧ (∀ y ∈ x.f1, ok30 y) ∧ (∀ y ∈ x.f2, ok53 y)
def mu25 (x : S25) : Nat := (1 + (((x.f1.map (fun y => mu30 y)).sum + 1) + ((x.f2.map (fun y => mu53 y)).sum + 1))) + 1
theorem o25 : Rd Try.prog 25 k25 ok25 mu25 := by
  have h := Rd.iso (fun x : S25 => (x.f0, x.f1, x.f2)) (fun p : Int × List (S30) × List (S53) => (⟨p.1, p.2.1, p.2.2⟩ : S25)) (fun _ => rfl) (Rd.structS (d := (Kd.pair (Kd.int .i64) (Kd.pair (Kd.slice 30 k30) (Kd.slice 53 k53)))) Try.underlying25 (by kernel_rfl) (RdF.cons rfl (by kernel_rfl) (Rd.int Try.underlying3) (by decide) (RdF.cons rfl (by kernel_rfl) (Rd.slice Try.underlying22 (by kernel_rfl) o30) (by decide) (RdF.one rfl (by kernel_rfl) (Rd.slice Try.underlying23 (by kernel_rfl) o53)))))
  exact h
structure S46 where
  f0 : Int
  f1 : Int
  f2 : Int
  f3 : Int
def k46 : Kd S46 := Kd.iso (Kd.pair (Kd.int .u8) (Kd.pair (Kd.int .u8) (Kd.pair (Kd.int .u8) (Kd.int .u8)))) (fun x : S46 => (x.f0, x.f1, x.f2, x.f3))
theorem k46_open {w : World} {x : S46} {cs : List Value} (h : k46.K w x cs) : cs = [.int .u8 x.f0, .int .u8 x.f1, .int .u8 x.f2, .int .u8 x.f3] := by
  obtain ⟨_, _, rfl, rfl, ⟨_, _, rfl, rfl, ⟨_, _, rfl, rfl, rfl⟩⟩⟩ := h
  exact rfl
def ok46 (x : S46) : Prop := (Lit.int .u8 x.f0).wf = true ∧ (Lit.int .u8 x.f1).wf = true ∧ (Lit.int .u8 x.f2).wf = true ∧ (Lit.int .u8 x.f3).wf = true
def mu46 (x : S46) : Nat := (1 + (1 + (1 + 1))) + 1
theorem o46 : Rd Try.prog 46 k46 ok46 mu46 := by
  have h := Rd.iso (fun x : S46 => (x.f0, x.f1, x.f2, x.f3)) (fun p : Int × Int × Int × Int => (⟨p.1, p.2.1, p.2.2.1, p.2.2.2⟩ : S46)) (fun _ => rfl) (Rd.arrayS (d := (Kd.pair (Kd.int .u8) (Kd.pair (Kd.int .u8) (Kd.pair (Kd.int .u8) (Kd.int .u8))))) Try.underlying46 (by kernel_rfl) (RdA.cons (by kernel_rfl) (Rd.int Try.underlying5) (RdA.cons (by kernel_rfl) (Rd.int Try.underlying5) (RdA.cons (by kernel_rfl) (Rd.int Try.underlying5) (RdA.one (by kernel_rfl) (Rd.int Try.underlying5))))))
  exact h
end Go.Proofs.Ytlknaikdlkobjaa.Q
