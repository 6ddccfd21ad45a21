/- PlaneFinds: the program's and the reference's search find one route. -/
import Derived.Test.YtlknaikdlkobjaaPPc
import Derived.Test.YtlknaikdlkobjaaQx16
import Derived.Test.YtlknaikdlkobjaaQxOp
open Go.Proofs.Ytlknaikdlkobjaa.Q in
def _root_.Go.Proofs.Ytlknaikdlkobjaa.Q.tollgatelaw10_PlaneFinds.Pure2 : Prop := ∀ (y0 : S25) (a1 : ByteArray) (a2 : ByteArray), ok25 y0 → a1.size ≤ 140737488351232 → a2.size ≤ 140737488351232 → ∃ k, tollgatelaw10_PlaneFinds.f k y0.f0 y0.f1 y0.f2 a1 a2 = some true
namespace Go.Proofs.Ytlknaikdlkobjaa.Pure
open Go.RowKit Go.Proofs.Ytlknaikdlkobjaa.Q Go.Proofs.Ytlknaikdlkobjaa.PP Go.Proofs.YtlknaikdlkobjaaW.PrintWords Go.Proofs.YtlknaikdlkobjaaW.PrintLast Go.Proofs.YtlknaikdlkobjaaW.PrintMore
theorem PlaneFinds : tollgatelaw10_PlaneFinds.Pure2 := by
  intro c h s hc hh hs
  refine Ev.rounds (r := true) ?_
  unfold tollgatelaw10_PlaneFinds.f
  have none_ : ∀ x217000 x217001 x217002, Ev (fun k => tollgatelaw10_PlaneFinds.j0 k h s true x217000 x217001 x217002) true := by
    intro _ _ _
    refine Ev.step (fun k => by simp only [tollgatelaw10_PlaneFinds.j0]; rfl) ?_
    refine Ev.pos trivial ?_
    exact Ev.bind live_is (Ev.ret rfl)
  obtain ⟨b, hb, hq⟩ := short_is c.f0 c.f1 c.f2
  refine Ev.bind hb ?_
  cases b with
  | false => exact Ev.neg (by simp) (none_ _ _ _)
  | true =>
    obtain ⟨h1, h2, h3⟩ := hq rfl
    refine Ev.pos rfl ?_
    by_cases h4 : (s.size : Int) > 3000
    · rw [decide_eq_true h4]; exact none_ _ _ _
    · rw [decide_eq_false h4]
      refine Ev.step (fun k => by simp only [tollgatelaw10_PlaneFinds.j0]; rfl) (Ev.neg (by simp) ?_)
      refine Ev.bind (Copy_is c.f0 c.f1 c.f2 h1 h2 h3) (Ev.bind (Find_is _ _ _ h s (by omega) (by show c.f1.length ≤ _; omega)) (Ev.bind (rFind_is _ _ _ h1 h s (by omega)) (Ev.bind live_is (Ev.pos rfl (Ev.pos (by simp) (Ev.pos (by simp) (Ev.bind (Same_is c.f0 c.f1 c.f2 h1 h2 h3) (Ev.ret rfl))))))))
end Go.Proofs.Ytlknaikdlkobjaa.Pure
