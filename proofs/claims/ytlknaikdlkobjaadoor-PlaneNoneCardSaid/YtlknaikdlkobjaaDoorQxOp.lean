-- Laid by lay.py, a program of this session's, out of the translation (the kit's printer with additions of ours). Lean checks it.
import Derived.Test.YtlknaikdlkobjaaDoorQx0
import Derived.Test.YtlknaikdlkobjaaDoorOpens
import Derived.KernelRfl
namespace Go.Proofs.YtlknaikdlkobjaaDoor.Q
open Go.RowKit Go.Proofs.YtlknaikdlkobjaaDoorW.PrintWords Go.Proofs.YtlknaikdlkobjaaDoorW.PrintLast Go.Proofs.YtlknaikdlkobjaaDoor.opens
set_option linter.unusedVariables false
def ok95 (x : S95) : Prop := x.f0.size ≤ 9223372036854775807 ∧ x.f1.size ≤ 9223372036854775807 ∧ x.f2.size ≤ 9223372036854775807
def mu95 (x : S95) : Nat := ((x.f0.size + 1) + ((x.f1.size + 1) + (x.f2.size + 1))) + 1
theorem o95 : Rd Tryd.prog 95 k95 ok95 mu95 := by
  have h := Rd.iso (fun x : S95 => (x.f0, x.f1, x.f2)) (fun p : ByteArray × ByteArray × ByteArray => (⟨p.1, p.2.1, p.2.2⟩ : S95)) (fun _ => rfl) (Rd.structS (d := (Kd.pair Kd.string (Kd.pair Kd.string Kd.string))) Tryd.underlying95 (by kernel_rfl) (RdF.cons rfl (by kernel_rfl) (Rd.string Tryd.underlying9) (by decide) (RdF.cons rfl (by kernel_rfl) (Rd.string Tryd.underlying9) (by decide) (RdF.one rfl (by kernel_rfl) (Rd.string Tryd.underlying9)))))
  exact h
def ok71 (x : S71) : Prop := x.f0.size ≤ 9223372036854775807 ∧ (Lit.float .f64 x.f1).wf = true
def mu71 (x : S71) : Nat := ((x.f0.size + 1) + 1) + 1
theorem o71 : Rd Tryd.prog 71 k71 ok71 mu71 := by
  have h := Rd.iso (fun x : S71 => (x.f0, x.f1)) (fun p : ByteArray × Nat => (⟨p.1, p.2⟩ : S71)) (fun _ => rfl) (Rd.structS (d := (Kd.pair Kd.string Kd.float)) Tryd.underlying71 (by kernel_rfl) (RdF.cons rfl (by kernel_rfl) (Rd.string Tryd.underlying9) (by decide) (RdF.one rfl (by kernel_rfl) (Rd.float Tryd.underlying58))))
  exact h
def ok69 (x : S69) : Prop := x.f0.size ≤ 9223372036854775807 ∧ (∀ y ∈ x.f1, ok71 y)
def mu69 (x : S69) : Nat := ((x.f0.size + 1) + ((x.f1.map (fun y => mu71 y)).sum + 1)) + 1
theorem o69 : Rd Tryd.prog 69 k69 ok69 mu69 := by
  have h := Rd.iso (fun x : S69 => (x.f0, x.f1)) (fun p : ByteArray × List (S71) => (⟨p.1, p.2⟩ : S69)) (fun _ => rfl) (Rd.structS (d := (Kd.pair Kd.string (Kd.slice 71 k71))) Tryd.underlying69 (by kernel_rfl) (RdF.cons rfl (by kernel_rfl) (Rd.string Tryd.underlying9) (by decide) (RdF.one rfl (by kernel_rfl) (Rd.slice Tryd.underlying67 (by kernel_rfl) o71))))
  exact h
structure S57 where
  f0 : Int
  f1 : List (S95)
  f2 : List (S69)
def k57 : Kd S57 := Kd.iso (Kd.pair (Kd.int .i64) (Kd.pair (Kd.slice 95 k95) (Kd.slice 69 k69))) (fun x : S57 => (x.f0, x.f1, x.f2))
theorem k57_open {w : World} {x : S57} {cs : List Value} (h : k57.K w x cs) : ∃ A1 c1 A2 c2, cs = [.int .i64 x.f0, .slice A1 x.f1.length c1, .slice A2 x.f2.length c2] ∧ x.f1.length ≤ c1 ∧ k95.C w A1 x.f1.length x.f1 ∧ x.f2.length ≤ c2 ∧ k69.C w A2 x.f2.length x.f2 := by
  obtain ⟨_, _, rfl, rfl, ⟨_, _, rfl, ⟨A1, c1, rfl, l1, g1⟩, ⟨A2, c2, rfl, l2, g2⟩⟩⟩ := h
  exact ⟨A1, c1, A2, c2, rfl, l1, g1, l2, g2⟩
def ok57 (x : S57) : Prop := (Lit.int .i64 x.f0).wf = true ∧ (∀ y ∈ x.f1, ok95 y) ∧ (∀ y ∈ x.f2, ok69 y)
def mu57 (x : S57) : Nat := (1 + (((x.f1.map (fun y => mu95 y)).sum + 1) + ((x.f2.map (fun y => mu69 y)).sum + 1))) + 1
theorem o57 : Rd Tryd.prog 57 k57 ok57 mu57 := by
  have h := Rd.iso (fun x : S57 => (x.f0, x.f1, x.f2)) (fun p : Int × List (S95) × List (S69) => (⟨p.1, p.2.1, p.2.2⟩ : S57)) (fun _ => rfl) (Rd.structS (d := (Kd.pair (Kd.int .i64) (Kd.pair (Kd.slice 95 k95) (Kd.slice 69 k69)))) Tryd.underlying57 (by kernel_rfl) (RdF.cons rfl (by kernel_rfl) (Rd.int Tryd.underlying3) (by decide) (RdF.cons rfl (by kernel_rfl) (Rd.slice Tryd.underlying54 (by kernel_rfl) o95) (by decide) (RdF.one rfl (by kernel_rfl) (Rd.slice Tryd.underlying55 (by kernel_rfl) o69)))))
  exact h
end Go.Proofs.YtlknaikdlkobjaaDoor.Q
