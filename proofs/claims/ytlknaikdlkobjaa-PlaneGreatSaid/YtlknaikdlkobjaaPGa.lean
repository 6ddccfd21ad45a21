/- The draws of a share of greatest floats, and the targets that the share's first and last draw take: computed. -/
import Derived.Test.YtlknaikdlkobjaaPWb
import Derived.Test.YtlknaikdlkobjaaQx22
namespace Go.Proofs.Ytlknaikdlkobjaa.Pure
open Go.RowKit Go.Proofs.Ytlknaikdlkobjaa.Q Go.Proofs.Ytlknaikdlkobjaa.PP Go.Proofs.YtlknaikdlkobjaaW.PrintWords Go.Proofs.YtlknaikdlkobjaaW.PrintLast Go.Proofs.YtlknaikdlkobjaaW.PrintMore Go.Proofs.Ytlknaikdlkobjaa.FL
abbrev great : S44 := ⟨⟨#[97]⟩, 9218868437227405311⟩
def drawG (m i far : Nat) : Nat := fquo (fadd (fint (i : Int)) (fquo (fadd 4607182418800017408 (fint (far : Int))) 4647714815446351872)) (fint (m : Int))
def okG (m i far : Nat) : Bool := faddOk 4607182418800017408 (fint (far : Int)) && (fquoOk (fadd 4607182418800017408 (fint (far : Int))) 4647714815446351872 && (faddOk (fint (i : Int)) (fquo (fadd 4607182418800017408 (fint (far : Int))) 4647714815446351872) && (fquoOk (fadd (fint (i : Int)) (fquo (fadd 4607182418800017408 (fint (far : Int))) 4647714815446351872)) (fint (m : Int)) && (decide (drawG m i 0 ≤ drawG m i far) && (decide (drawG m i far ≤ drawG m i 255) && decide (drawG m i 255 ≤ INF))))))
def endsG (m i : Nat) : Bool := weighF (List.replicate m great) (drawG m i 0) == ((i : Int), true) && weighF (List.replicate m great) (drawG m i 255) == ((i : Int), true)
theorem okG_all : ((List.range 4).all fun n => (List.range (2 * 2 ^ n)).all fun i => (List.range 256).all fun far => okG (2 * 2 ^ n) i far) = true := by decide +kernel
theorem endsG_all : ((List.range 4).all fun n => (List.range (2 * 2 ^ n)).all fun i => endsG (2 * 2 ^ n) i) = true := by decide +kernel
theorem lastG_all : ((List.range 4).all fun n => weighF (List.replicate (2 * 2 ^ n) great) INF == (((2 * 2 ^ n - 1 : Nat) : Int), true)) = true := by decide +kernel
end Go.Proofs.Ytlknaikdlkobjaa.Pure
