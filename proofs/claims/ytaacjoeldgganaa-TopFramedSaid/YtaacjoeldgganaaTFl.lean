import Derived.Test.YtaacjoeldgganaaTFk
/-! TopFramed as the row wants it. -/
namespace Go.Proofs.Ytaacjoeldgganaa.S
set_option linter.unusedVariables false
open Go.RowKit Go.Proofs.YtaacjoeldgganaaW.PrintWords Go.Proofs.YtaacjoeldgganaaW.PrintLast Go.Proofs.YtaacjoeldgganaaW.PrintMore
open Classical in
/-- What the law tells of messages whose bytes are bytes. -/
noncomputable def tollgatetop_TopFramed.f (k : Nat) (l : List S32) (torn : Int) : Option Bool := if (∀ m ∈ l, FP.okM m) ∧ 0 ≤ torn ∧ torn ≤ 65535 then some true else none
theorem tollgatetop_TopFramed.hand2 (k : Nat) (A0 : Option Addr) (c0 : Nat) (l : List S32) (torn : Int) (r : Bool) (w : World) (hr0 : Kd.C k32 w A0 l.length l) (hc0 : l.length ≤ c0) (h : tollgatetop_TopFramed.f k l torn = some r) :
    Calls Try.prog 3 #[.slice A0 l.length c0, .int .u16 torn] w fun e w' => e = .returned (.bool r) ∧ Below w.heap.size w w' := by
  unfold tollgatetop_TopFramed.f at h
  split at h
  · next hh =>
    obtain rfl := Option.some.inj h
    exact tollgatetop_TopFramed.hand A0 c0 l torn w hr0 hc0 hh.1 hh.2
  · cases h
end Go.Proofs.Ytaacjoeldgganaa.S
