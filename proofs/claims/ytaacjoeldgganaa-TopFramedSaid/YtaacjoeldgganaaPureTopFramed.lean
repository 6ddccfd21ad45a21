/- TopFramed: messages that are put, framed and laid one behind the other are read back, up to where the bytes are torn. -/
import Derived.Test.YtaacjoeldgganaaTFl
open Go Go.Proofs.Ytaacjoeldgganaa.S in
def _root_.Go.Proofs.Ytaacjoeldgganaa.S.tollgatetop_TopFramed.Pure2 : Prop := ∀ (l0 : List (S32)) (a1 : Int), (∀ y ∈ l0, ok32 y) → (Lit.int .u16 a1).wf = true → ∃ k, tollgatetop_TopFramed.f k l0 a1 = some true
namespace Go.Proofs.Ytaacjoeldgganaa.Pure
open Go.RowKit Go.Proofs.Ytaacjoeldgganaa.S Go.Proofs.YtaacjoeldgganaaW.PrintWords Go.Proofs.YtaacjoeldgganaaW.PrintLast Go.Proofs.YtaacjoeldgganaaW.PrintMore
theorem u16_of {a : Int} (h : (Lit.int .u16 a).wf = true) : 0 ≤ a ∧ a ≤ 65535 := by
  simp [Lit.wf, IntKind.min, IntKind.max, IntKind.signed, IntKind.bits] at h
  omega
theorem TopFramed : tollgatetop_TopFramed.Pure2 := by
  intro l0 a1 hok hw
  refine ⟨0, ?_⟩
  unfold tollgatetop_TopFramed.f
  refine if_pos ⟨fun m hm => ?_, ?_⟩
  · obtain ⟨_, _, _, _, _, _, _, _, _, _, h10, h11⟩ := hok m hm
    exact ⟨FP.B8_of h11, fun e he => FP.B8_of (h10 e he).2.2.2⟩
  · exact u16_of hw
end Go.Proofs.Ytaacjoeldgganaa.Pure
