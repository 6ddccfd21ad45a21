-- Laid by lay.py, a program of this session's, out of the translation (the kit's printer with additions of ours). Lean checks it.
import Derived.Test.YtabkdmfnafeaeaaDoorQx0
import Derived.Test.YtabkdmfnafeaeaaDoorOpens
import Derived.KernelRfl
namespace Go.Proofs.YtabkdmfnafeaeaaDoor.Q
open Go.RowKit Go.Proofs.YtabkdmfnafeaeaaDoorW.PrintWords Go.Proofs.YtabkdmfnafeaeaaDoorW.PrintLast Go.Proofs.YtabkdmfnafeaeaaDoor.opens
set_option linter.unusedVariables false
structure S32 where
  f0 : ByteArray
  f1 : ByteArray
def k32 : Kd S32 := Kd.iso (Kd.pair Kd.string Kd.string) (fun x : S32 => (x.f0, x.f1))
theorem k32_open {w : World} {x : S32} {cs : List Value} (h : k32.K w x cs) : cs = [.string x.f0, .string x.f1] := by
  obtain ⟨_, _, rfl, rfl, rfl⟩ := h
  exact rfl
def ok32 (x : S32) : Prop := x.f0.size ≤ 9223372036854775807 ∧ x.f1.size ≤ 9223372036854775807
def mu32 (x : S32) : Nat := ((x.f0.size + 1) + (x.f1.size + 1)) + 1
theorem o32 : Rd Tryd.prog 32 k32 ok32 mu32 := by
  have h := Rd.iso (fun x : S32 => (x.f0, x.f1)) (fun p : ByteArray × ByteArray => (⟨p.1, p.2⟩ : S32)) (fun _ => rfl) (Rd.arrayS (d := (Kd.pair Kd.string Kd.string)) Tryd.underlying32 (by kernel_rfl) (RdA.cons (by kernel_rfl) (Rd.string Tryd.underlying9) (RdA.one (by kernel_rfl) (Rd.string Tryd.underlying9))))
  exact h
def ok38 (x : S38) : Prop := x.f0.size ≤ 9223372036854775807 ∧ x.f1.size ≤ 9223372036854775807
def mu38 (x : S38) : Nat := ((x.f0.size + 1) + (x.f1.size + 1)) + 1
theorem o38 : Rd Tryd.prog 38 k38 ok38 mu38 := by
  have h := Rd.iso (fun x : S38 => (x.f0, x.f1)) (fun p : ByteArray × ByteArray => (⟨p.1, p.2⟩ : S38)) (fun _ => rfl) (Rd.structS (d := (Kd.pair Kd.string Kd.string)) Tryd.underlying38 (by kernel_rfl) (RdF.cons rfl (by kernel_rfl) (Rd.string Tryd.underlying9) (by decide) (RdF.one rfl (by kernel_rfl) (Rd.string Tryd.underlying9))))
  exact h
structure S25 where
  f0 : ByteArray
  f1 : ByteArray
  f2 : ByteArray
  f3 : ByteArray
  f4 : List (S38)
def k25 : Kd S25 := Kd.iso (Kd.pair Kd.string (Kd.pair Kd.string (Kd.pair Kd.string (Kd.pair Kd.string (Kd.slice 38 k38))))) (fun x : S25 => (x.f0, x.f1, x.f2, x.f3, x.f4))
theorem k25_open {w : World} {x : S25} {cs : List Value} (h : k25.K w x cs) : ∃ A4 c4, cs = [.string x.f0, .string x.f1, .string x.f2, .string x.f3, .slice A4 x.f4.length c4] ∧ x.f4.length ≤ c4 ∧ k38.C w A4 x.f4.length x.f4 := by
  obtain ⟨_, _, rfl, rfl, ⟨_, _, rfl, rfl, ⟨_, _, rfl, rfl, ⟨_, _, rfl, rfl, ⟨A4, c4, rfl, l4, g4⟩⟩⟩⟩⟩ := h
  exact ⟨A4, c4, rfl, l4, g4⟩
def ok25 (x : S25) : Prop := x.f0.size ≤ 9223372036854775807 ∧ x.f1.size ≤ 9223372036854775807 ∧ x.f2.size ≤ 9223372036854775807 ∧ x.f3.size ≤ 9223372036854775807 ∧ (∀ y ∈ x.f4, ok38 y)
def mu25 (x : S25) : Nat := ((x.f0.size + 1) + ((x.f1.size + 1) + ((x.f2.size + 1) + ((x.f3.size + 1) + ((x.f4.map (fun y => mu38 y)).sum + 1))))) + 1
theorem o25 : Rd Tryd.prog 25 k25 ok25 mu25 := by
  have h := Rd.iso (fun x : S25 => (x.f0, x.f1, x.f2, x.f3, x.f4)) (fun p : ByteArray × ByteArray × ByteArray × ByteArray × List (S38) => (⟨p.1, p.2.1, p.2.2.1, p.2.2.2.1, p.2.2.2.2⟩ : S25)) (fun _ => rfl) (Rd.structS (d := (Kd.pair Kd.string (Kd.pair Kd.string (Kd.pair Kd.string (Kd.pair Kd.string (Kd.slice 38 k38)))))) Tryd.underlying25 (by kernel_rfl) (RdF.cons rfl (by kernel_rfl) (Rd.string Tryd.underlying9) (by decide) (RdF.cons rfl (by kernel_rfl) (Rd.string Tryd.underlying9) (by decide) (RdF.cons rfl (by kernel_rfl) (Rd.string Tryd.underlying9) (by decide) (RdF.cons rfl (by kernel_rfl) (Rd.string Tryd.underlying9) (by decide) (RdF.one rfl (by kernel_rfl) (Rd.slice Tryd.underlying23 (by kernel_rfl) o38)))))))
  exact h
end Go.Proofs.YtabkdmfnafeaeaaDoor.Q
