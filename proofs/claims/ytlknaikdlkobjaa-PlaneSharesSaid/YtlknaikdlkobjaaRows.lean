/-
  No cell of these rows narrows 'for every input' (looked for: loops, veiled, ifaces, maps, wideKeys, modest, calm, conditions, laid).
  DERIVED. THE GIVEN ROWS OF THIS SEAT. 7 by the template 'for every input the law returns true; each argument reads behind the call as it read before'; 0 by the template 'total and deterministic' (their statements: YtlknaikdlkobjaaTotals.lean).
  GIVEN WITH THE SEED: the statements are not yours to turn. If you find one false, say at which input.
  Laid BY PROGRAM, IN A SANDBOX (cutbox-rows.mjs): the forced cells as the released guide's own fill.sh prints them over the translation 0d885b020cd97a79… (all of the seat's roots in one cut). By AI agents, Wed Nov 11 2026. No macro, syntax, notation, axiom, sorry.
-/
import Derived.Test.YtlknaikdlkobjaaChecked
import GoSem.Claim
import GoSem.ClaimJoined
import GoSem.ClaimMapViews
import Derived.JoinedTies
import Derived.KernelRfl
namespace Go.Proofs.Ytlknaikdlkobjaa
/- THE CELL 'sum', in the pinned program and in every row, IS THE sha256 OF THE DUMP (.gsa) THAT YtlknaikdlkobjaaProg.lean LOADS. Nothing in Lean hashes anything: it is a label: what it is worth is what the hold of that sum in a sandbox is worth. -/
noncomputable def Try.pinned : Pinned := { name := "ytlknaikdlkobjaa", sum := "0d885b020cd97a79e1f9c3ad66d18f5e08d4dd37f703f79c052917b67b80694f", checked := Try.checked }
namespace Rows
def none {H : Type} : Left H := { results := [], args := [] }

/-- 'tollgatelaw10.PlaneFinds': WHATEVER THE INPUT: true; the input reads as it did. -/
def planeFindsSpec : ChangeSpec := { name := "planeFinds", fn := fun _ => fun
  | [d1, d2, d3] => { results := [.lit (.bool true)], args := [d1, d2, d3] }
  | _ => none }
def planeFindsRow : OpenClaim := { program := "ytlknaikdlkobjaa", sum := "0d885b020cd97a79e1f9c3ad66d18f5e08d4dd37f703f79c052917b67b80694f", func := "tollgate/tollgatelaw10.PlaneFinds", spec := "planeFinds", inPlace := ["math.Float64bits", "math.Float64frombits"], apart := false }
def PlaneFindsSaid : Prop := planeFindsRow.holds Try.pinned (OpenSpec.ofChange planeFindsSpec)

/-- ITS FALSE NEIGHBOUR: 'it returns false'. Refute it at one input. -/
def planeFindsWrong : ChangeSpec := { name := "planeFinds", fn := fun _ => fun
  | [d1, d2, d3] => { results := [.lit (.bool false)], args := [d1, d2, d3] }
  | _ => none }
def PlaneFindsWrongFalsely : Prop := planeFindsRow.holds Try.pinned (OpenSpec.ofChange planeFindsWrong)

/-- 'tollgatelaw10.PlaneLongest': WHATEVER THE INPUT: true; the input reads as it did. -/
def planeLongestSpec : ChangeSpec := { name := "planeLongest", fn := fun _ => fun
  | [d1, d2, d3] => { results := [.lit (.bool true)], args := [d1, d2, d3] }
  | _ => none }
def planeLongestRow : OpenClaim := { program := "ytlknaikdlkobjaa", sum := "0d885b020cd97a79e1f9c3ad66d18f5e08d4dd37f703f79c052917b67b80694f", func := "tollgate/tollgatelaw10.PlaneLongest", spec := "planeLongest", inPlace := ["math.Float64bits", "math.Float64frombits"], apart := false }
def PlaneLongestSaid : Prop := planeLongestRow.holds Try.pinned (OpenSpec.ofChange planeLongestSpec)

/-- ITS FALSE NEIGHBOUR: 'it returns false'. Refute it at one input. -/
def planeLongestWrong : ChangeSpec := { name := "planeLongest", fn := fun _ => fun
  | [d1, d2, d3] => { results := [.lit (.bool false)], args := [d1, d2, d3] }
  | _ => none }
def PlaneLongestWrongFalsely : Prop := planeLongestRow.holds Try.pinned (OpenSpec.ofChange planeLongestWrong)

/-- 'tollgatelaw10.PlaneFits': WHATEVER THE INPUT: true; the input reads as it did. -/
def planeFitsSpec : ChangeSpec := { name := "planeFits", fn := fun _ => fun
  | [d1, d2, d3] => { results := [.lit (.bool true)], args := [d1, d2, d3] }
  | _ => none }
def planeFitsRow : OpenClaim := { program := "ytlknaikdlkobjaa", sum := "0d885b020cd97a79e1f9c3ad66d18f5e08d4dd37f703f79c052917b67b80694f", func := "tollgate/tollgatelaw10.PlaneFits", spec := "planeFits", inPlace := ["math.Float64bits", "math.Float64frombits"], apart := false }
def PlaneFitsSaid : Prop := planeFitsRow.holds Try.pinned (OpenSpec.ofChange planeFitsSpec)

/-- ITS FALSE NEIGHBOUR: 'it returns false'. Refute it at one input. -/
def planeFitsWrong : ChangeSpec := { name := "planeFits", fn := fun _ => fun
  | [d1, d2, d3] => { results := [.lit (.bool false)], args := [d1, d2, d3] }
  | _ => none }
def PlaneFitsWrongFalsely : Prop := planeFitsRow.holds Try.pinned (OpenSpec.ofChange planeFitsWrong)

/-- 'tollgatelaw10.PlaneNought': WHATEVER THE INPUT: true; the input reads as it did. -/
def planeNoughtSpec : ChangeSpec := { name := "planeNought", fn := fun _ => fun
  | [d1, d2] => { results := [.lit (.bool true)], args := [d1, d2] }
  | _ => none }
def planeNoughtRow : OpenClaim := { program := "ytlknaikdlkobjaa", sum := "0d885b020cd97a79e1f9c3ad66d18f5e08d4dd37f703f79c052917b67b80694f", func := "tollgate/tollgatelaw10.PlaneNought", spec := "planeNought", inPlace := ["math.Float64bits", "math.Float64frombits"], apart := false }
def PlaneNoughtSaid : Prop := planeNoughtRow.holds Try.pinned (OpenSpec.ofChange planeNoughtSpec)

/-- ITS FALSE NEIGHBOUR: 'it returns false'. Refute it at one input. -/
def planeNoughtWrong : ChangeSpec := { name := "planeNought", fn := fun _ => fun
  | [d1, d2] => { results := [.lit (.bool false)], args := [d1, d2] }
  | _ => none }
def PlaneNoughtWrongFalsely : Prop := planeNoughtRow.holds Try.pinned (OpenSpec.ofChange planeNoughtWrong)

/-- 'tollgatelaw10.PlaneShares': WHATEVER THE INPUT: true; the input reads as it did. -/
def planeSharesSpec : ChangeSpec := { name := "planeShares", fn := fun _ => fun
  | [d] => { results := [.lit (.bool true)], args := [d] }
  | _ => none }
def planeSharesRow : OpenClaim := { program := "ytlknaikdlkobjaa", sum := "0d885b020cd97a79e1f9c3ad66d18f5e08d4dd37f703f79c052917b67b80694f", func := "tollgate/tollgatelaw10.PlaneShares", spec := "planeShares", inPlace := ["math.Float64bits", "math.Float64frombits"], apart := false }
def PlaneSharesSaid : Prop := planeSharesRow.holds Try.pinned (OpenSpec.ofChange planeSharesSpec)

/-- ITS FALSE NEIGHBOUR: 'it returns false'. Refute it at one input. -/
def planeSharesWrong : ChangeSpec := { name := "planeShares", fn := fun _ => fun
  | [d] => { results := [.lit (.bool false)], args := [d] }
  | _ => none }
def PlaneSharesWrongFalsely : Prop := planeSharesRow.holds Try.pinned (OpenSpec.ofChange planeSharesWrong)

/-- 'tollgatelaw10.PlaneGreat': WHATEVER THE INPUT: true; the input reads as it did. -/
def planeGreatSpec : ChangeSpec := { name := "planeGreat", fn := fun _ => fun
  | [d1, d2, d3] => { results := [.lit (.bool true)], args := [d1, d2, d3] }
  | _ => none }
def planeGreatRow : OpenClaim := { program := "ytlknaikdlkobjaa", sum := "0d885b020cd97a79e1f9c3ad66d18f5e08d4dd37f703f79c052917b67b80694f", func := "tollgate/tollgatelaw10.PlaneGreat", spec := "planeGreat", inPlace := ["math.Float64bits", "math.Float64frombits"], apart := false }
def PlaneGreatSaid : Prop := planeGreatRow.holds Try.pinned (OpenSpec.ofChange planeGreatSpec)

/-- ITS FALSE NEIGHBOUR: 'it returns false'. Refute it at one input. -/
def planeGreatWrong : ChangeSpec := { name := "planeGreat", fn := fun _ => fun
  | [d1, d2, d3] => { results := [.lit (.bool false)], args := [d1, d2, d3] }
  | _ => none }
def PlaneGreatWrongFalsely : Prop := planeGreatRow.holds Try.pinned (OpenSpec.ofChange planeGreatWrong)

/-- 'tollgatelaw10.PlaneRises': WHATEVER THE INPUT: true; the input reads as it did. -/
def planeRisesSpec : ChangeSpec := { name := "planeRises", fn := fun _ => fun
  | [d1, d2, d3] => { results := [.lit (.bool true)], args := [d1, d2, d3] }
  | _ => none }
def planeRisesRow : OpenClaim := { program := "ytlknaikdlkobjaa", sum := "0d885b020cd97a79e1f9c3ad66d18f5e08d4dd37f703f79c052917b67b80694f", func := "tollgate/tollgatelaw10.PlaneRises", spec := "planeRises", inPlace := ["math.Float64bits", "math.Float64frombits"], apart := false }
def PlaneRisesSaid : Prop := planeRisesRow.holds Try.pinned (OpenSpec.ofChange planeRisesSpec)

/-- ITS FALSE NEIGHBOUR: 'it returns false'. Refute it at one input. -/
def planeRisesWrong : ChangeSpec := { name := "planeRises", fn := fun _ => fun
  | [d1, d2, d3] => { results := [.lit (.bool false)], args := [d1, d2, d3] }
  | _ => none }
def PlaneRisesWrongFalsely : Prop := planeRisesRow.holds Try.pinned (OpenSpec.ofChange planeRisesWrong)

/- THE SECOND FORM. 'bulk': how many values and letters a reading holds, each counted each time it is reached (what is shared counts as often as it is met; a slice's spare places count too). A statement '..UptoSaid' is the law's where the arguments, and the package variables that the reading takes, are together of bulk at most 1048576: NARROWER than '..Said'. Prove '..Said' where nothing that the law and all that it calls make is longer than what came in: it says more and counts as full. Else prove '..UptoSaid'. A law counts once. -/
mutual
def uptoBulk {H : Type} : DataW H → Nat
  | .lit (.string bytes) => bytes.length + 1
  | .lit _ => 1
  | .nil => 1
  | .ptr d => uptoBulk d + 1
  | .slice elems spare => uptoBulkAll elems + uptoBulkAll spare + 1
  | .agg parts => uptoBulkAll parts + 1
  | .iface _ d => uptoBulk d + 1
  | .map entries => uptoBulkEntries entries + 1
  | .held _ => 1
def uptoBulkAll {H : Type} : List (DataW H) → Nat
  | [] => 0
  | d :: r => uptoBulk d + uptoBulkAll r
def uptoBulkEntries {H : Type} : List (Lit × DataW H) → Nat
  | [] => 0
  | x :: r => uptoBulkEntry x + uptoBulkEntries r
def uptoBulkEntry {H : Type} : Lit × DataW H → Nat
  | (.string bytes, d) => bytes.length + uptoBulk d + 1
  | (_, d) => uptoBulk d + 1
 end
def uptoSmall : (H : Type) → List (DataW H) → Bool := fun _ ds => decide (uptoBulkAll ds ≤ 1048576)
def OpenSpec.upto (s : _root_.Go.ChangeSpec) : _root_.Go.OpenSpec := { _root_.Go.OpenSpec.ofChange s with cond := some uptoSmall }

/-- 'tollgatelaw10.PlaneFinds', WHERE WHAT IT READS IS OF BULK AT MOST 1048576: true; the input reads as it did. -/
def planeFindsUptoRow : OpenClaim := { program := "ytlknaikdlkobjaa", sum := "0d885b020cd97a79e1f9c3ad66d18f5e08d4dd37f703f79c052917b67b80694f", func := "tollgate/tollgatelaw10.PlaneFinds", spec := "planeFinds", inPlace := ["math.Float64bits", "math.Float64frombits"], apart := false, narrowed := true }
def PlaneFindsUptoSaid : Prop := planeFindsUptoRow.holds Try.pinned (OpenSpec.upto planeFindsSpec)

/-- 'tollgatelaw10.PlaneLongest', WHERE WHAT IT READS IS OF BULK AT MOST 1048576: true; the input reads as it did. -/
def planeLongestUptoRow : OpenClaim := { program := "ytlknaikdlkobjaa", sum := "0d885b020cd97a79e1f9c3ad66d18f5e08d4dd37f703f79c052917b67b80694f", func := "tollgate/tollgatelaw10.PlaneLongest", spec := "planeLongest", inPlace := ["math.Float64bits", "math.Float64frombits"], apart := false, narrowed := true }
def PlaneLongestUptoSaid : Prop := planeLongestUptoRow.holds Try.pinned (OpenSpec.upto planeLongestSpec)

/-- 'tollgatelaw10.PlaneFits', WHERE WHAT IT READS IS OF BULK AT MOST 1048576: true; the input reads as it did. -/
def planeFitsUptoRow : OpenClaim := { program := "ytlknaikdlkobjaa", sum := "0d885b020cd97a79e1f9c3ad66d18f5e08d4dd37f703f79c052917b67b80694f", func := "tollgate/tollgatelaw10.PlaneFits", spec := "planeFits", inPlace := ["math.Float64bits", "math.Float64frombits"], apart := false, narrowed := true }
def PlaneFitsUptoSaid : Prop := planeFitsUptoRow.holds Try.pinned (OpenSpec.upto planeFitsSpec)

/-- 'tollgatelaw10.PlaneNought', WHERE WHAT IT READS IS OF BULK AT MOST 1048576: true; the input reads as it did. -/
def planeNoughtUptoRow : OpenClaim := { program := "ytlknaikdlkobjaa", sum := "0d885b020cd97a79e1f9c3ad66d18f5e08d4dd37f703f79c052917b67b80694f", func := "tollgate/tollgatelaw10.PlaneNought", spec := "planeNought", inPlace := ["math.Float64bits", "math.Float64frombits"], apart := false, narrowed := true }
def PlaneNoughtUptoSaid : Prop := planeNoughtUptoRow.holds Try.pinned (OpenSpec.upto planeNoughtSpec)

/-- 'tollgatelaw10.PlaneShares', WHERE WHAT IT READS IS OF BULK AT MOST 1048576: true; the input reads as it did. -/
def planeSharesUptoRow : OpenClaim := { program := "ytlknaikdlkobjaa", sum := "0d885b020cd97a79e1f9c3ad66d18f5e08d4dd37f703f79c052917b67b80694f", func := "tollgate/tollgatelaw10.PlaneShares", spec := "planeShares", inPlace := ["math.Float64bits", "math.Float64frombits"], apart := false, narrowed := true }
def PlaneSharesUptoSaid : Prop := planeSharesUptoRow.holds Try.pinned (OpenSpec.upto planeSharesSpec)

/-- 'tollgatelaw10.PlaneGreat', WHERE WHAT IT READS IS OF BULK AT MOST 1048576: true; the input reads as it did. -/
def planeGreatUptoRow : OpenClaim := { program := "ytlknaikdlkobjaa", sum := "0d885b020cd97a79e1f9c3ad66d18f5e08d4dd37f703f79c052917b67b80694f", func := "tollgate/tollgatelaw10.PlaneGreat", spec := "planeGreat", inPlace := ["math.Float64bits", "math.Float64frombits"], apart := false, narrowed := true }
def PlaneGreatUptoSaid : Prop := planeGreatUptoRow.holds Try.pinned (OpenSpec.upto planeGreatSpec)

/-- 'tollgatelaw10.PlaneRises', WHERE WHAT IT READS IS OF BULK AT MOST 1048576: true; the input reads as it did. -/
def planeRisesUptoRow : OpenClaim := { program := "ytlknaikdlkobjaa", sum := "0d885b020cd97a79e1f9c3ad66d18f5e08d4dd37f703f79c052917b67b80694f", func := "tollgate/tollgatelaw10.PlaneRises", spec := "planeRises", inPlace := ["math.Float64bits", "math.Float64frombits"], apart := false, narrowed := true }
def PlaneRisesUptoSaid : Prop := planeRisesUptoRow.holds Try.pinned (OpenSpec.upto planeRisesSpec)

end Rows
end Go.Proofs.Ytlknaikdlkobjaa
