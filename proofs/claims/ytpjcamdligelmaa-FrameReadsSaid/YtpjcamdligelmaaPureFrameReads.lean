/- FrameReads: the program's Next tells just what the document says stands at a place, and where it ends, or the error, for every bytes and place. No condition. -/
import Derived.Test.YtpjcamdligelmaaQx16
import Derived.Test.YtpjcamdligelmaaFPb
namespace Go.Proofs.Ytpjcamdligelmaa.Pure
open Go.RowKit Go.Proofs.Ytpjcamdligelmaa.Q Go.Proofs.Ytpjcamdligelmaa.FP Go.Proofs.YtpjcamdligelmaaW.PrintWords Go.Proofs.YtpjcamdligelmaaW.PrintLast Go.Proofs.YtpjcamdligelmaaW.PrintMore
theorem i64_of {a : Int} (h : (Lit.int .i64 a).wf = true) : -9223372036854775808 ≤ a ∧ a ≤ 9223372036854775807 := by
  simp [Lit.wf, IntKind.min, IntKind.max, IntKind.signed, IntKind.bits] at h; omega
theorem FrameReads : tollgatelaw01_FrameReads.Pure := by
  intro l a hm hl hB ha
  have hb := B8_of hB
  refine Ev.rounds (r := true) ?_
  unfold tollgatelaw01_FrameReads.f
  refine Ev.call (Next_f hb a) (Ev.bind (rNext_is l a (i64_of ha) (by omega) hb) (Ev.call rfl (Ev.pos rfl (Ev.pos rfl (Ev.pos rfl (Ev.ret ?_))))))
  simp
end Go.Proofs.Ytpjcamdligelmaa.Pure
