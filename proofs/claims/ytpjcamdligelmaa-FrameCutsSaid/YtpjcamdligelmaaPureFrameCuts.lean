/- FrameCuts: a frame that is cut short is none: Next tells ErrShort, All tells nothing, for every bytes and every length. No condition. -/
import Derived.Test.YtpjcamdligelmaaQx20
import Derived.Test.YtpjcamdligelmaaFPc
namespace Go.Proofs.Ytpjcamdligelmaa.Pure
open Go.RowKit Go.Proofs.Ytpjcamdligelmaa.Q Go.Proofs.Ytpjcamdligelmaa.FP Go.Proofs.YtpjcamdligelmaaW.PrintWords Go.Proofs.YtpjcamdligelmaaW.PrintLast Go.Proofs.YtpjcamdligelmaaW.PrintMore
theorem FrameCuts : tollgatelaw01_FrameCuts.Pure := by
  intro l a hm hl hB ha
  have hb := B8_of hB
  refine Ev.rounds (r := true) ?_
  unfold tollgatelaw01_FrameCuts.f
  refine Ev.call (Frame_f hb) ?_
  by_cases hL : (l.length : Int) > 65536
  · rw [if_pos hL]
    exact Ev.neg (fun h : (6 : Int) = 0 => by omega) (Ev.call rfl (Ev.ret rfl))
  rw [if_neg hL]
  have hFl := frameBytes_length l
  have hFB := frameBytes_B8 l hb
  have hw8 : wrap64 (8 + (l.length : Int)) = 8 + (l.length : Int) := by unfold wrap64; omega
  have hwu : IntKind.u64.wrap (8 + (l.length : Int)) = 8 + (l.length : Int) := by
    simp only [IntKind.wrap, IntKind.signed, IntKind.bits]; simp; omega
  have hu : 0 ≤ IntKind.u64.wrap a ∧ IntKind.u64.wrap a < 18446744073709551616 := by
    simp only [IntKind.wrap, IntKind.signed, IntKind.bits]; simp; omega
  rw [hw8, hwu]
  generalize IntKind.u64.wrap a = u at hu ⊢
  have hm1 : Int.tmod u (8 + (l.length : Int)) = u % (8 + (l.length : Int)) := Int.tmod_eq_emod_of_nonneg hu.1
  have hm2 : 0 ≤ u % (8 + (l.length : Int)) ∧ u % (8 + (l.length : Int)) < 8 + (l.length : Int) := ⟨Int.emod_nonneg _ (by omega), Int.emod_lt_of_pos _ (by omega)⟩
  generalize hn : u % (8 + (l.length : Int)) = n at hm1 hm2
  have hw1 : wrap64 n = n := by unfold wrap64; omega
  rw [hm1, hw1]
  dsimp only
  have hmn : mn n ((frameBytes l).length : Int) = n := by unfold mn; rw [if_neg (by omega)]
  rw [hmn]
  have hcut := nextOf_cut [] l (by omega) n.toNat (by omega)
  rw [List.nil_append, show (([] : List Int).length : Int) = 0 from rfl] at hcut
  have hBt := B8_take hFB n.toNat
  have hlt : ((frameBytes l).take n.toNat).length = n.toNat := by rw [List.length_take]; omega
  have hall : allOf 65545 ((frameBytes l).take n.toNat) [] 0 = ([], 0) := allOf_stop (by rw [hcut]; intro h; cases h) _ _
  refine Ev.pos rfl (Ev.neg (by omega) (Ev.pos (by omega) (Ev.pos (by omega) (Ev.call (Next_f hBt 0) ?_))))
  rw [hcut]
  refine Ev.bind (All_is _ (by omega) hBt 65545 (by omega)) ?_
  rw [hall]
  exact Ev.call rfl (Ev.pos rfl (Ev.pos rfl (Ev.pos rfl (Ev.pos rfl (Ev.pos rfl (Ev.ret rfl))))))
end Go.Proofs.Ytpjcamdligelmaa.Pure
