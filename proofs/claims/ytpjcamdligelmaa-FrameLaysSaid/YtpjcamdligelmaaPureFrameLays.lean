/- FrameLays: the program's Frame lays just the bytes, or the error, that the document says, and leaves its argument alone, for every bytes. No condition. -/
import Derived.Test.YtpjcamdligelmaaQx13
import Derived.Test.YtpjcamdligelmaaFPb
namespace Go.Proofs.Ytpjcamdligelmaa.Pure
open Go.RowKit Go.Proofs.Ytpjcamdligelmaa.Q Go.Proofs.Ytpjcamdligelmaa.FP Go.Proofs.YtpjcamdligelmaaW.PrintWords Go.Proofs.YtpjcamdligelmaaW.PrintLast Go.Proofs.YtpjcamdligelmaaW.PrintMore
theorem i64_of {a : Int} (h : (Lit.int .i64 a).wf = true) : -9223372036854775808 ≤ a ∧ a ≤ 9223372036854775807 := by
  simp [Lit.wf, IntKind.min, IntKind.max, IntKind.signed, IntKind.bits] at h; omega
theorem FrameLays : tollgatelaw01_FrameLays.Pure := by
  intro l hm hl hB
  have hb := B8_of hB
  refine Ev.rounds (r := true) ?_
  unfold tollgatelaw01_FrameLays.f
  refine Ev.put (Ev.pos (by rw [List.length_nil]; omega) (Ev.put ?_))
  rw [List.nil_append]
  refine Ev.call (Frame_f hb) (Ev.bind (rFrame_is l (by omega) hb) (Ev.call rfl (Ev.pos rfl (Ev.pos rfl (Ev.pos rfl (Ev.ret ?_))))))
  simp
end Go.Proofs.Ytpjcamdligelmaa.Pure
