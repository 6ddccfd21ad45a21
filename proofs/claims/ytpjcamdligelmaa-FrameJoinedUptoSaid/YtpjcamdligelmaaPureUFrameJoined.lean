/- FrameJoined: the program's sum of two rows, one behind the other, goes on from the first one's. Condition: the form '..UptoSaid' (arguments of together at most 1048576 values). -/
import Derived.Test.YtpjcamdligelmaaQx10
import Derived.Test.YtpjcamdligelmaaFPb
namespace Go.Proofs.Ytpjcamdligelmaa.PureU
open Go.RowKit Go.Proofs.Ytpjcamdligelmaa.Q Go.Proofs.Ytpjcamdligelmaa.FP Go.Proofs.YtpjcamdligelmaaW.PrintWords Go.Proofs.YtpjcamdligelmaaW.PrintLast Go.Proofs.YtpjcamdligelmaaW.PrintMore
def _root_.Go.Proofs.Ytpjcamdligelmaa.Q.tollgatelaw01_FrameJoined.PureU : Prop := ∀ (l0 l1 : List Int), l0.length + l1.length ≤ 1048576 → (∀ x ∈ l0, (Lit.int .u8 x).wf = true) → (∀ x ∈ l1, (Lit.int .u8 x).wf = true) → ∃ k, tollgatelaw01_FrameJoined.f k l0 l1 = some true
theorem FrameJoined : tollgatelaw01_FrameJoined.PureU := by
  intro a b hS hA hB
  have ha := B8_of hA
  have hb := B8_of hB
  refine Ev.rounds (r := true) ?_
  unfold tollgatelaw01_FrameJoined.f
  refine Ev.put (Ev.pos (by rw [List.length_nil]; omega) (Ev.put (Ev.pos (by rw [List.nil_append]; omega) (Ev.call rfl (Ev.pos rfl ?_)))))
  rw [List.nil_append]
  have hr := fextend_range 0 a
  refine Ev.bind (Sum_is _ (by rw [List.length_append]; omega) (B8_append ha hb)) (Ev.bind (Sum_is a (by omega) ha) (Ev.bind (Extend_is _ b hr.1 hr.2 (by omega) hb) ?_))
  rw [fextend_append]
  refine Ev.pos rfl (Ev.bind (Extend_is 0 b (by omega) (by omega) (by omega) hb) (Ev.bind (Sum_is b (by omega) hb) (Ev.ret ?_)))
  simp
end Go.Proofs.Ytpjcamdligelmaa.PureU
