/- FrameBack: what the program frames is read by its Next as it was, whatever stands around. Condition: the form '..UptoSaid' (arguments of together at most 1048576 values). -/
import Derived.Test.YtpjcamdligelmaaQx17
import Derived.Test.YtpjcamdligelmaaFPc
namespace Go.Proofs.Ytpjcamdligelmaa.PureU
open Go.RowKit Go.Proofs.Ytpjcamdligelmaa.Q Go.Proofs.Ytpjcamdligelmaa.FP Go.Proofs.YtpjcamdligelmaaW.PrintWords Go.Proofs.YtpjcamdligelmaaW.PrintLast Go.Proofs.YtpjcamdligelmaaW.PrintMore
def _root_.Go.Proofs.Ytpjcamdligelmaa.Q.tollgatelaw01_FrameBack.PureU : Prop := ∀ (l0 l1 l2 : List Int), l0.length + l1.length + l2.length ≤ 1048576 → (∀ x ∈ l0, (Lit.int .u8 x).wf = true) → (∀ x ∈ l1, (Lit.int .u8 x).wf = true) → (∀ x ∈ l2, (Lit.int .u8 x).wf = true) → tollgatelaw01_FrameBack.f l0 l1 l2 = some true
theorem FrameBack : tollgatelaw01_FrameBack.PureU := by
  intro p b q hS hP hB hQ
  have hp := B8_of hP
  have hb := B8_of hB
  have hq := B8_of hQ
  refine Ev.const ?_
  unfold tollgatelaw01_FrameBack.f
  refine Ev.call (Frame_f hb) ?_
  by_cases hL : (b.length : Int) > 65536
  · rw [if_pos hL]
    refine Ev.neg (fun h : (6 : Int) = 0 => by omega) ?_
    exact Ev.call rfl (Ev.pos rfl (Ev.pos rfl (Ev.pos hL (Ev.ret rfl))))
  · rw [if_neg hL]
    have hFl := frameBytes_length b
    have hBB : B8 (p ++ (frameBytes b ++ q)) := B8_append hp (B8_append (frameBytes_B8 b hb) hq)
    have hn := nextOf_frame p b q (by omega)
    have hw : wrap64 (wrap64 ((p.length : Int) + 8) + (b.length : Int)) = (p.length : Int) + 8 + (b.length : Int) := by unfold wrap64; omega
    refine Ev.pos rfl (Ev.put (Ev.pos (by rw [List.length_nil]; omega) (Ev.put (Ev.pos (by rw [List.nil_append]; dsimp only; omega) (Ev.put (Ev.pos (by rw [List.nil_append, List.length_append]; dsimp only; omega) ?_))))))
    rw [List.nil_append, List.append_assoc]
    refine Ev.call (Next_f hBB _) ?_
    rw [hn, hw]
    refine Ev.call rfl (Ev.pos rfl (Ev.pos rfl (Ev.pos rfl (Ev.ret ?_))))
    simp
end Go.Proofs.Ytpjcamdligelmaa.PureU
