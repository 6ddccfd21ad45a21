/- PlaneNone: the walk has shown it. -/
import Derived.Test.YtlknaikdlkobjaaDoorQx57
import Derived.Test.YtlknaikdlkobjaaDoorQxOp
open Go Go.Proofs.YtlknaikdlkobjaaDoor.Q in
def _root_.Go.Proofs.YtlknaikdlkobjaaDoor.Q.tollgatelaw10_PlaneNone.Pure2 : Prop := ∀ (y0 : S57) (l1 : List Int) (a2 : Nat), ok57 y0 → (∀ y ∈ l1, (Lit.int .u8 y).wf = true) → (Lit.float .f64 a2).wf = true → tollgatelaw10_PlaneNone.f y0.f0 y0.f1 y0.f2 l1 a2 = some true
namespace Go.Proofs.YtlknaikdlkobjaaDoor.Pure
open Go.Proofs.YtlknaikdlkobjaaDoor.Q
theorem PlaneNone : tollgatelaw10_PlaneNone.Pure2 := fun _ _ _ _ _ _ => rfl
end Go.Proofs.YtlknaikdlkobjaaDoor.Pure
