/- HeadWrites: a head's bytes, or the error; the host of a text. Condition: the form '..UptoCardSaid' (arguments of together at most 1048576 values). -/
import Derived.Test.YtabkdmfnafeaeaaDoorQx37
import Derived.Test.YtabkdmfnafeaeaaDoorQx44
import Derived.Test.YtabkdmfnafeaeaaDoorHPzt
namespace Go.Proofs.YtabkdmfnafeaeaaDoor.PureU
open Go.RowKit Go.Proofs.YtabkdmfnafeaeaaDoor.Q Go.Proofs.YtabkdmfnafeaeaaDoor.HP Go.Proofs.YtabkdmfnafeaeaaDoorW.PrintWords Go.Proofs.YtabkdmfnafeaeaaDoorW.PrintLast Go.Proofs.YtabkdmfnafeaeaaDoorW.PrintMore
def _root_.Go.Proofs.YtabkdmfnafeaeaaDoor.Q.tollgatelaw09_HeadWrites.PureU : Prop := ∀ (y0 : S25) (a1 : ByteArray), (mu25 y0 + a1.size) ≤ 1048576 → ok25 y0 → a1.size ≤ 140737488351232 → ∃ k, tollgatelaw09_HeadWrites.f k y0.f0 y0.f1 y0.f2 y0.f3 y0.f4 a1 = some true
theorem HeadWrites : tollgatelaw09_HeadWrites.PureU := by
  intro y0 a1 hS _ _
  obtain ⟨m, p, q, hh, fs, rfl, _, h1, h2, h3⟩ := head_in y0 (by omega)
  have ha : a1 = B a1.data.toList := (B_of a1).symm
  have hal : a1.data.toList.length ≤ 1000000000 := by
    have : a1.data.toList.length = a1.size := by simp
    omega
  generalize a1.data.toList = s at ha hal
  subst ha
  refine Ev.rounds (r := true) ?_
  unfold tollgatelaw09_HeadWrites.f
  refine Ev.bind (write_is m p q hh fs (by omega) (by omega) (by omega)) (Ev.bind (rwrite_is m p q hh fs (by omega) (by omega) (by omega)) (Ev.bind (host_is s hal) (Ev.bind (rHost_is s hal) (Ev.bind live_is (Ev.pos rfl (Ev.pos rfl (Ev.pos rfl (Ev.pos rfl (Ev.ret ?_)))))))))
  simp
end Go.Proofs.YtabkdmfnafeaeaaDoor.PureU
