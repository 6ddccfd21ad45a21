/- FrameSums: the program's Sum and Extend give what the document's CRC-32 gives, for every sum of 32 bits and every bytes. No condition. -/
import Derived.Test.YtpjcamdligelmaaQx9
import Derived.Test.YtpjcamdligelmaaFPa
namespace Go.Proofs.Ytpjcamdligelmaa.Pure
open Go.RowKit Go.Proofs.Ytpjcamdligelmaa.Q Go.Proofs.Ytpjcamdligelmaa.FP Go.Proofs.YtpjcamdligelmaaW.PrintWords Go.Proofs.YtpjcamdligelmaaW.PrintLast
theorem FrameSums : tollgatelaw01_FrameSums.Pure := by
  intro s l hs hm hl hB
  have hb := B8_of hB
  have hs2 : 0 ≤ s ∧ s < 4294967296 := by simp [Lit.wf, IntKind.min, IntKind.max, IntKind.signed, IntKind.bits] at hs; omega
  have e1 := Sum_is l (by omega) hb
  have e2 := rSum_is l (by omega) hb
  have e3 := Extend_is s l hs2.1 hs2.2 (by omega) hb
  have e4 := rExtend_is s l hs2.1 hs2.2 (by omega) hb
  refine Ev.rounds (r := true) ?_
  unfold tollgatelaw01_FrameSums.f
  simp only [tollgatelaw01_live.f, Option.bind_some, if_true]
  refine Ev.bind e1 (Ev.bind e2 ?_)
  simp only [if_true]
  refine Ev.bind e3 (Ev.bind e4 ?_)
  simp only [BEq.rfl]
  exact Ev.now true
end Go.Proofs.Ytpjcamdligelmaa.Pure
