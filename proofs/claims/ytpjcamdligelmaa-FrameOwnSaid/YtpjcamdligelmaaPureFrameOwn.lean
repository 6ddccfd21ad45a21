/- FrameOwn: what the program's Next and All tell is new memory: it may be written, and stays when the frame's bytes are written. No condition. -/
import Derived.Test.YtpjcamdligelmaaQx25
import Derived.Test.YtpjcamdligelmaaFRa
namespace Go.Proofs.Ytpjcamdligelmaa.Pure
open Go.RowKit Go.Proofs.Ytpjcamdligelmaa.Q Go.Proofs.Ytpjcamdligelmaa.FP Go.Proofs.YtpjcamdligelmaaW.PrintWords Go.Proofs.YtpjcamdligelmaaW.PrintLast Go.Proofs.YtpjcamdligelmaaW.PrintMore
theorem own_l1 (l x6 : List Int) (hl : l.length ≤ 65536) (h6 : x6.length = l.length + 3) (n : Nat) (hn : n ≤ 70000) : ∀ (d i : Nat) (x3 : List Int), x3.length = n → i + d = n →
    Ev (fun k => tollgatelaw01_FrameOwn.l1 k l x3 x6 [l] (i : Int)) true := by
  intro d
  induction d with
  | zero =>
    intro i x3 h3 hi
    refine Ev.step (fun k => by simp only [tollgatelaw01_FrameOwn.l1]; rfl) ?_
    refine Ev.neg (by omega) (Ev.call rfl (Ev.pos rfl (Ev.pos (by simp) (Ev.pos rfl (Ev.ret ?_)))))
    have hw : wrap64 ((l.length : Int) + 3) = (l.length : Int) + 3 := by unfold wrap64; omega
    rw [hw, h6]
    simp
  | succ d ih =>
    intro i x3 h3 hi
    have hw : wrap64 ((i : Int) + 1) = ((i + 1 : Nat) : Int) := by unfold wrap64; omega
    refine Ev.step (fun k => by simp only [tollgatelaw01_FrameOwn.l1]; rfl) ?_
    refine Ev.pos (by omega) (Ev.pos (by omega) ?_)
    rw [hw]
    exact ih (i + 1) _ (by rw [List.length_set]; exact h3) (by omega)
theorem own_l0 (l x3 : List Int) (hl : l.length ≤ 65536) (h3 : x3.length ≤ 70000) : ∀ (d i : Nat) (x6 : List Int), x6.length = l.length → i + d = l.length →
    Ev (fun k => tollgatelaw01_FrameOwn.l0 k l x3 (strOfNums x3) x6 0 [l] (i : Int)) true := by
  intro d
  induction d with
  | zero =>
    intro i x6 h6 hi
    refine Ev.step (fun k => by simp only [tollgatelaw01_FrameOwn.l0]; rfl) ?_
    refine Ev.neg (by omega) (Ev.put (Ev.pos (by simp; omega) (Ev.put (Ev.pos trivial (Ev.pos (by simp) (Ev.pos trivial (Ev.pos (by simp) ?_)))))))
    refine Ev.step (fun k => by simp only [tollgatelaw01_FrameOwn.j1]; rfl) ?_
    refine Ev.neg (by simp [rd_L1]) ?_
    exact own_l1 l _ hl (by rw [List.length_append, h6]; rfl) x3.length h3 x3.length 0 x3 rfl (by omega)
  | succ d ih =>
    intro i x6 h6 hi
    have hw : wrap64 ((i : Int) + 1) = ((i + 1 : Nat) : Int) := by unfold wrap64; omega
    refine Ev.step (fun k => by simp only [tollgatelaw01_FrameOwn.l0]; rfl) ?_
    refine Ev.pos (by omega) (Ev.pos (by omega) ?_)
    rw [hw]
    exact ih (i + 1) _ (by rw [List.length_set]; exact h6) (by omega)
theorem FrameOwn : tollgatelaw01_FrameOwn.Pure := by
  intro l hm hl hB
  have hb := B8_of hB
  refine Ev.rounds (r := true) ?_
  unfold tollgatelaw01_FrameOwn.f
  refine Ev.call (Frame_f hb) ?_
  by_cases hL : (l.length : Int) > 65536
  · rw [if_pos hL]
    exact Ev.neg (fun h : (6 : Int) = 0 => by omega) (Ev.call rfl (Ev.ret rfl))
  rw [if_neg hL]
  have hFl := frameBytes_length l
  have hFB := frameBytes_B8 l hb
  have hn := nextOf_frame [] l [] (by omega)
  have ha := allOf_cat [] [l] [] [] 65545 (by intro x hx; simp at hx; subst hx; omega) (by simp) (by simp only [List.append_nil, List.nil_append]; exact nextOf_end _)
  simp only [List.append_nil, List.nil_append, cat, List.length_nil, Int.ofNat_zero] at hn ha
  refine Ev.pos rfl (Ev.call (Next_f hFB 0) ?_)
  rw [show (0 : Int) = ((0 : Nat) : Int) from rfl] at hn ha
  refine Ev.bind (All_is _ (by omega) hFB 65545 (by omega)) ?_
  have hn' : nextOf (frameBytes l) 0 = (l, (0 : Int) + 8 + (l.length : Int), 0) := hn
  have ha' : allOf 65545 (frameBytes l) [] 0 = ([l], ((frameBytes l).length : Int)) := ha
  rw [hn', ha']
  exact own_l0 l (frameBytes l) (by omega) (by omega) l.length 0 l rfl (by omega)
end Go.Proofs.Ytpjcamdligelmaa.Pure
