-- Laid by lay.py, a program of this session's, out of the translation (the kit's printer with additions of ours). Lean checks it.
import Derived.Test.YtaacjoeldgganaaSx0
import Derived.Test.YtaacjoeldgganaaOpens
import Derived.KernelRfl
namespace Go.Proofs.Ytaacjoeldgganaa.S
open Go.RowKit Go.Proofs.YtaacjoeldgganaaW.PrintWords Go.Proofs.YtaacjoeldgganaaW.PrintLast Go.Proofs.Ytaacjoeldgganaa.opens
set_option linter.unusedVariables false
def ok48 (x : S48) : Prop := (Lit.int .i64 x.f0).wf = true ∧ (Lit.int .i64 x.f1).wf = true ∧ (Lit.int .i64 x.f2).wf = true ∧ (∀ y ∈ x.f3, (Lit.int .u8 y).wf = true)
def mu48 (x : S48) : Nat := (1 + (1 + (1 + ((x.f3.map (fun y => 1)).sum + 1)))) + 1
theorem o48 : Rd Try.prog 48 k48 ok48 mu48 := by
  have h := Rd.iso (fun x : S48 => (x.f0, x.f1, x.f2, x.f3)) (fun p : Int × Int × Int × List Int => (⟨p.1, p.2.1, p.2.2.1, p.2.2.2⟩ : S48)) (fun _ => rfl) (Rd.structS (d := (Kd.pair (Kd.int .i64) (Kd.pair (Kd.int .i64) (Kd.pair (Kd.int .i64) (Kd.slice 5 (Kd.int .u8)))))) Try.underlying48 (by kernel_rfl) (RdF.cons rfl (by kernel_rfl) (Rd.int Try.underlying46) (by decide) (RdF.cons rfl (by kernel_rfl) (Rd.int Try.underlying3) (by decide) (RdF.cons rfl (by kernel_rfl) (Rd.int Try.underlying3) (by decide) (RdF.one rfl (by kernel_rfl) (Rd.slice Try.underlying24 (by kernel_rfl) (Rd.int Try.underlying5)))))))
  exact h
structure S32 where
  f0 : Int
  f1 : Int
  f2 : Int
  f3 : Int
  f4 : Int
  f5 : Int
  f6 : Int
  f7 : Int
  f8 : Int
  f9 : Bool
  f10 : List (S48)
  f11 : List Int
def k32 : Kd S32 := Kd.iso (Kd.pair (Kd.int .i64) (Kd.pair (Kd.int .i64) (Kd.pair (Kd.int .i64) (Kd.pair (Kd.int .i64) (Kd.pair (Kd.int .i64) (Kd.pair (Kd.int .i64) (Kd.pair (Kd.int .i64) (Kd.pair (Kd.int .i64) (Kd.pair (Kd.int .i64) (Kd.pair Kd.bool (Kd.pair (Kd.slice 48 k48) (Kd.slice 5 (Kd.int .u8))))))))))))) (fun x : S32 => (x.f0, x.f1, x.f2, x.f3, x.f4, x.f5, x.f6, x.f7, x.f8, x.f9, x.f10, x.f11))
theorem k32_open {w : World} {x : S32} {cs : List Value} (h : k32.K w x cs) : ∃ A10 c10 A11 c11, cs = [.int .i64 x.f0, .int .i64 x.f1, .int .i64 x.f2, .int .i64 x.f3, .int .i64 x.f4, .int .i64 x.f5, .int .i64 x.f6, .int .i64 x.f7, .int .i64 x.f8, .bool x.f9, .slice A10 x.f10.length c10, .slice A11 x.f11.length c11] ∧ x.f10.length ≤ c10 ∧ k48.C w A10 x.f10.length x.f10 ∧ x.f11.length ≤ c11 ∧ (Kd.int .u8).C w A11 x.f11.length x.f11 := by
  obtain ⟨_, _, rfl, rfl, ⟨_, _, rfl, rfl, ⟨_, _, rfl, rfl, ⟨_, _, rfl, rfl, ⟨_, _, rfl, rfl, ⟨_, _, rfl, rfl, ⟨_, _, rfl, rfl, ⟨_, _, rfl, rfl, ⟨_, _, rfl, rfl, ⟨_, _, rfl, rfl, ⟨_, _, rfl, ⟨A10, c10, rfl, l10, g10⟩, ⟨A11, c11, rfl, l11, g11⟩⟩⟩⟩⟩⟩⟩⟩⟩⟩⟩⟩ := h
  exact ⟨A10, c10, A11, c11, rfl, l10, g10, l11, g11⟩
def ok32 (x : S32) : Prop := (Lit.int .i64 x.f0).wf = true ∧ (Lit.int .i64 x.f1).wf = true ∧ (Lit.int .i64 x.f2).wf = true ∧ (Lit.int .i64 x.f3).wf = true ∧ (Lit.int .i64 x.f4).wf = true ∧ (Lit.int .i64 x.f5).wf = true ∧ (Lit.int .i64 x.f6).wf = true ∧ (Lit.int .i64 x.f7).wf = true ∧ (Lit.int .i64 x.f8).wf = true ∧ True ∧ (∀ y ∈ x.f10, ok48 y) ∧ (∀ y ∈ x.f11, (Lit.int .u8 y).wf = true)
def mu32 (x : S32) : Nat := (1 + (1 + (1 + (1 + (1 + (1 + (1 + (1 + (1 + (1 + (((x.f10.map (fun y => mu48 y)).sum + 1) + ((x.f11.map (fun y => 1)).sum + 1)))))))))))) + 1
theorem o32 : Rd Try.prog 32 k32 ok32 mu32 := by
  have h := Rd.iso (fun x : S32 => (x.f0, x.f1, x.f2, x.f3, x.f4, x.f5, x.f6, x.f7, x.f8, x.f9, x.f10, x.f11)) (fun p : Int × Int × Int × Int × Int × Int × Int × Int × Int × Bool × List (S48) × List Int => (⟨p.1, p.2.1, p.2.2.1, p.2.2.2.1, p.2.2.2.2.1, p.2.2.2.2.2.1, p.2.2.2.2.2.2.1, p.2.2.2.2.2.2.2.1, p.2.2.2.2.2.2.2.2.1, p.2.2.2.2.2.2.2.2.2.1, p.2.2.2.2.2.2.2.2.2.2.1, p.2.2.2.2.2.2.2.2.2.2.2⟩ : S32)) (fun _ => rfl) (Rd.structS (d := (Kd.pair (Kd.int .i64) (Kd.pair (Kd.int .i64) (Kd.pair (Kd.int .i64) (Kd.pair (Kd.int .i64) (Kd.pair (Kd.int .i64) (Kd.pair (Kd.int .i64) (Kd.pair (Kd.int .i64) (Kd.pair (Kd.int .i64) (Kd.pair (Kd.int .i64) (Kd.pair Kd.bool (Kd.pair (Kd.slice 48 k48) (Kd.slice 5 (Kd.int .u8)))))))))))))) Try.underlying32 (by kernel_rfl) (RdF.cons rfl (by kernel_rfl) (Rd.int Try.underlying29) (by decide) (RdF.cons rfl (by kernel_rfl) (Rd.int Try.underlying3) (by decide) (RdF.cons rfl (by kernel_rfl) (Rd.int Try.underlying3) (by decide) (RdF.cons rfl (by kernel_rfl) (Rd.int Try.underlying3) (by decide) (RdF.cons rfl (by kernel_rfl) (Rd.int Try.underlying3) (by decide) (RdF.cons rfl (by kernel_rfl) (Rd.int Try.underlying3) (by decide) (RdF.cons rfl (by kernel_rfl) (Rd.int Try.underlying3) (by decide) (RdF.cons rfl (by kernel_rfl) (Rd.int Try.underlying3) (by decide) (RdF.cons rfl (by kernel_rfl) (Rd.int Try.underlying3) (by decide) (RdF.cons rfl (by kernel_rfl) (Rd.bool Try.underlying4) (by decide) (RdF.cons rfl (by kernel_rfl) (Rd.slice Try.underlying30 (by kernel_rfl) o48) (by decide) (RdF.one rfl (by kernel_rfl) (Rd.slice Try.underlying24 (by kernel_rfl) (Rd.int Try.underlying5)))))))))))))))
  exact h
end Go.Proofs.Ytaacjoeldgganaa.S
