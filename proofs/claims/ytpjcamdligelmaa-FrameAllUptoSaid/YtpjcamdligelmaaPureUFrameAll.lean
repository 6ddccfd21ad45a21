/- FrameAll: the program's All tells all frames from the beginning on, and the place behind them, as the document says. Condition: the form '..UptoSaid' (arguments of together at most 1048576 values). -/
import Derived.Test.YtpjcamdligelmaaQx23
import Derived.Test.YtpjcamdligelmaaFPc
namespace Go.Proofs.Ytpjcamdligelmaa.PureU
open Go.RowKit Go.Proofs.Ytpjcamdligelmaa.Q Go.Proofs.Ytpjcamdligelmaa.FP Go.Proofs.YtpjcamdligelmaaW.PrintWords Go.Proofs.YtpjcamdligelmaaW.PrintLast Go.Proofs.YtpjcamdligelmaaW.PrintMore
def _root_.Go.Proofs.Ytpjcamdligelmaa.Q.tollgatelaw01_FrameAll.PureU : Prop := ∀ (l0 : List Int), l0.length ≤ 1048576 → (∀ x ∈ l0, (Lit.int .u8 x).wf = true) → ∃ k, tollgatelaw01_FrameAll.f k l0 = some true
theorem FrameAll : tollgatelaw01_FrameAll.PureU := by
  intro l hS hB
  have hb := B8_of hB
  refine Ev.rounds (r := true) ?_
  unfold tollgatelaw01_FrameAll.f
  have hl := allOf_length l hb (l.length + 1) [] 0 (by omega) (by omega)
  rw [List.length_nil] at hl
  refine Ev.bind (All_is l (by omega) hb (l.length + 1) (by omega)) (Ev.bind (rAll_is l (by omega) hb (l.length + 1) (by omega)) (Ev.call rfl (Ev.pos rfl (Ev.bind (Same_is _ (by omega)) (Ev.pos rfl (Ev.ret ?_))))))
  simp
end Go.Proofs.Ytpjcamdligelmaa.PureU
