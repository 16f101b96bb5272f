/-
  No cell of these rows narrows 'for every input' (looked for: loops, veiled, ifaces, maps, wideKeys, modest, calm, conditions, laid).
  DERIVED. THE GIVEN ROWS OF THIS SEAT. 15 by the template 'for every input the law returns true; each argument reads behind the call as it read before'; 0 by the template 'total and deterministic' (their statements: YtehebhphlaghfaaTotals.lean).
  GIVEN WITH THE SEED: the statements are not yours to turn. If you find one false, say at which input.
  Laid BY PROGRAM, IN A SANDBOX (cutbox-rows.mjs): the forced cells as the released guide's own fill.sh prints them over the translation 9de1e5cbf10e76b9… (all of the seat's roots in one cut). By AI agents, Wed Nov 11 2026. No macro, syntax, notation, axiom, sorry.
-/
import Derived.Test.YtehebhphlaghfaaChecked
import GoSem.Claim
import GoSem.ClaimJoined
import GoSem.ClaimMapViews
import Derived.JoinedTies
import Derived.KernelRfl
namespace Go.Proofs.Ytehebhphlaghfaa
/- THE CELL 'sum', in the pinned program and in every row, IS THE sha256 OF THE DUMP (.gsa) THAT YtehebhphlaghfaaProg.lean LOADS. Nothing in Lean hashes anything: it is a label: what it is worth is what the hold of that sum in a sandbox is worth. -/
noncomputable def Try.pinned : Pinned := { name := "ytehebhphlaghfaa", sum := "9de1e5cbf10e76b9f620ad54f76f76953ce58aee095e1c9ad8620eae7845d9c5", checked := Try.checked }
namespace Rows
def none {H : Type} : Left H := { results := [], args := [] }

/-- 'laws.FnExactValidEscapement': WHATEVER THE INPUT: true; the input reads as it did. -/
def fnExactValidEscapementSpec : ChangeSpec := { name := "fnExactValidEscapement", fn := fun _ => fun
  | [d] => { results := [.lit (.bool true)], args := [d] }
  | _ => none }
def fnExactValidEscapementRow : OpenClaim := { program := "ytehebhphlaghfaa", sum := "9de1e5cbf10e76b9f620ad54f76f76953ce58aee095e1c9ad8620eae7845d9c5", func := "loop.example/g00921/laws.FnExactValidEscapement", spec := "fnExactValidEscapement", apart := false }
def FnExactValidEscapementSaid : Prop := fnExactValidEscapementRow.holds Try.pinned (OpenSpec.ofChange fnExactValidEscapementSpec)

/-- ITS FALSE NEIGHBOUR: 'it returns false'. Refute it at one input. -/
def fnExactValidEscapementWrong : ChangeSpec := { name := "fnExactValidEscapement", fn := fun _ => fun
  | [d] => { results := [.lit (.bool false)], args := [d] }
  | _ => none }
def FnExactValidEscapementWrongFalsely : Prop := fnExactValidEscapementRow.holds Try.pinned (OpenSpec.ofChange fnExactValidEscapementWrong)

/-- 'laws.FnExactValidBeat': WHATEVER THE INPUT: true; the input reads as it did. -/
def fnExactValidBeatSpec : ChangeSpec := { name := "fnExactValidBeat", fn := fun _ => fun
  | [d1, d2] => { results := [.lit (.bool true)], args := [d1, d2] }
  | _ => none }
def fnExactValidBeatRow : OpenClaim := { program := "ytehebhphlaghfaa", sum := "9de1e5cbf10e76b9f620ad54f76f76953ce58aee095e1c9ad8620eae7845d9c5", func := "loop.example/g00921/laws.FnExactValidBeat", spec := "fnExactValidBeat", apart := false }
def FnExactValidBeatSaid : Prop := fnExactValidBeatRow.holds Try.pinned (OpenSpec.ofChange fnExactValidBeatSpec)

/-- ITS FALSE NEIGHBOUR: 'it returns false'. Refute it at one input. -/
def fnExactValidBeatWrong : ChangeSpec := { name := "fnExactValidBeat", fn := fun _ => fun
  | [d1, d2] => { results := [.lit (.bool false)], args := [d1, d2] }
  | _ => none }
def FnExactValidBeatWrongFalsely : Prop := fnExactValidBeatRow.holds Try.pinned (OpenSpec.ofChange fnExactValidBeatWrong)

/-- 'laws.FnSteady': WHATEVER THE INPUT: true; the input reads as it did. -/
def fnSteadySpec : ChangeSpec := { name := "fnSteady", fn := fun _ => fun
  | [d] => { results := [.lit (.bool true)], args := [d] }
  | _ => none }
def fnSteadyRow : OpenClaim := { program := "ytehebhphlaghfaa", sum := "9de1e5cbf10e76b9f620ad54f76f76953ce58aee095e1c9ad8620eae7845d9c5", func := "loop.example/g00921/laws.FnSteady", spec := "fnSteady", apart := false }
def FnSteadySaid : Prop := fnSteadyRow.holds Try.pinned (OpenSpec.ofChange fnSteadySpec)

/-- ITS FALSE NEIGHBOUR: 'it returns false'. Refute it at one input. -/
def fnSteadyWrong : ChangeSpec := { name := "fnSteady", fn := fun _ => fun
  | [d] => { results := [.lit (.bool false)], args := [d] }
  | _ => none }
def FnSteadyWrongFalsely : Prop := fnSteadyRow.holds Try.pinned (OpenSpec.ofChange fnSteadyWrong)

/-- 'laws.FnExactSteadyEnergy': WHATEVER THE INPUT: true; the input reads as it did. -/
def fnExactSteadyEnergySpec : ChangeSpec := { name := "fnExactSteadyEnergy", fn := fun _ => fun
  | [d1, d2] => { results := [.lit (.bool true)], args := [d1, d2] }
  | _ => none }
def fnExactSteadyEnergyRow : OpenClaim := { program := "ytehebhphlaghfaa", sum := "9de1e5cbf10e76b9f620ad54f76f76953ce58aee095e1c9ad8620eae7845d9c5", func := "loop.example/g00921/laws.FnExactSteadyEnergy", spec := "fnExactSteadyEnergy", apart := false }
def FnExactSteadyEnergySaid : Prop := fnExactSteadyEnergyRow.holds Try.pinned (OpenSpec.ofChange fnExactSteadyEnergySpec)

/-- ITS FALSE NEIGHBOUR: 'it returns false'. Refute it at one input. -/
def fnExactSteadyEnergyWrong : ChangeSpec := { name := "fnExactSteadyEnergy", fn := fun _ => fun
  | [d1, d2] => { results := [.lit (.bool false)], args := [d1, d2] }
  | _ => none }
def FnExactSteadyEnergyWrongFalsely : Prop := fnExactSteadyEnergyRow.holds Try.pinned (OpenSpec.ofChange fnExactSteadyEnergyWrong)

/-- 'laws.FnMoreEnergy': WHATEVER THE INPUT: true; the input reads as it did. -/
def fnMoreEnergySpec : ChangeSpec := { name := "fnMoreEnergy", fn := fun _ => fun
  | [d] => { results := [.lit (.bool true)], args := [d] }
  | _ => none }
def fnMoreEnergyRow : OpenClaim := { program := "ytehebhphlaghfaa", sum := "9de1e5cbf10e76b9f620ad54f76f76953ce58aee095e1c9ad8620eae7845d9c5", func := "loop.example/g00921/laws.FnMoreEnergy", spec := "fnMoreEnergy", apart := false }
def FnMoreEnergySaid : Prop := fnMoreEnergyRow.holds Try.pinned (OpenSpec.ofChange fnMoreEnergySpec)

/-- ITS FALSE NEIGHBOUR: 'it returns false'. Refute it at one input. -/
def fnMoreEnergyWrong : ChangeSpec := { name := "fnMoreEnergy", fn := fun _ => fun
  | [d] => { results := [.lit (.bool false)], args := [d] }
  | _ => none }
def FnMoreEnergyWrongFalsely : Prop := fnMoreEnergyRow.holds Try.pinned (OpenSpec.ofChange fnMoreEnergyWrong)

/-- 'laws.FnExactStopAfter': WHATEVER THE INPUT: true; the input reads as it did. -/
def fnExactStopAfterSpec : ChangeSpec := { name := "fnExactStopAfter", fn := fun _ => fun
  | [d1, d2, d3] => { results := [.lit (.bool true)], args := [d1, d2, d3] }
  | _ => none }
def fnExactStopAfterRow : OpenClaim := { program := "ytehebhphlaghfaa", sum := "9de1e5cbf10e76b9f620ad54f76f76953ce58aee095e1c9ad8620eae7845d9c5", func := "loop.example/g00921/laws.FnExactStopAfter", spec := "fnExactStopAfter", apart := false }
def FnExactStopAfterSaid : Prop := fnExactStopAfterRow.holds Try.pinned (OpenSpec.ofChange fnExactStopAfterSpec)

/-- ITS FALSE NEIGHBOUR: 'it returns false'. Refute it at one input. -/
def fnExactStopAfterWrong : ChangeSpec := { name := "fnExactStopAfter", fn := fun _ => fun
  | [d1, d2, d3] => { results := [.lit (.bool false)], args := [d1, d2, d3] }
  | _ => none }
def FnExactStopAfterWrongFalsely : Prop := fnExactStopAfterRow.holds Try.pinned (OpenSpec.ofChange fnExactStopAfterWrong)

/-- 'laws.FnExactSwing': WHATEVER THE INPUT: true; the input reads as it did. -/
def fnExactSwingSpec : ChangeSpec := { name := "fnExactSwing", fn := fun _ => fun
  | [d1, d2, d3] => { results := [.lit (.bool true)], args := [d1, d2, d3] }
  | _ => none }
def fnExactSwingRow : OpenClaim := { program := "ytehebhphlaghfaa", sum := "9de1e5cbf10e76b9f620ad54f76f76953ce58aee095e1c9ad8620eae7845d9c5", func := "loop.example/g00921/laws.FnExactSwing", spec := "fnExactSwing", apart := false }
def FnExactSwingSaid : Prop := fnExactSwingRow.holds Try.pinned (OpenSpec.ofChange fnExactSwingSpec)

/-- ITS FALSE NEIGHBOUR: 'it returns false'. Refute it at one input. -/
def fnExactSwingWrong : ChangeSpec := { name := "fnExactSwing", fn := fun _ => fun
  | [d1, d2, d3] => { results := [.lit (.bool false)], args := [d1, d2, d3] }
  | _ => none }
def FnExactSwingWrongFalsely : Prop := fnExactSwingRow.holds Try.pinned (OpenSpec.ofChange fnExactSwingWrong)

/-- 'laws.FnExactWheelTurns': WHATEVER THE INPUT: true; the input reads as it did. -/
def fnExactWheelTurnsSpec : ChangeSpec := { name := "fnExactWheelTurns", fn := fun _ => fun
  | [d1, d2] => { results := [.lit (.bool true)], args := [d1, d2] }
  | _ => none }
def fnExactWheelTurnsRow : OpenClaim := { program := "ytehebhphlaghfaa", sum := "9de1e5cbf10e76b9f620ad54f76f76953ce58aee095e1c9ad8620eae7845d9c5", func := "loop.example/g00921/laws.FnExactWheelTurns", spec := "fnExactWheelTurns", apart := false }
def FnExactWheelTurnsSaid : Prop := fnExactWheelTurnsRow.holds Try.pinned (OpenSpec.ofChange fnExactWheelTurnsSpec)

/-- ITS FALSE NEIGHBOUR: 'it returns false'. Refute it at one input. -/
def fnExactWheelTurnsWrong : ChangeSpec := { name := "fnExactWheelTurns", fn := fun _ => fun
  | [d1, d2] => { results := [.lit (.bool false)], args := [d1, d2] }
  | _ => none }
def FnExactWheelTurnsWrongFalsely : Prop := fnExactWheelTurnsRow.holds Try.pinned (OpenSpec.ofChange fnExactWheelTurnsWrong)

/-- 'laws.FnExactLeastStart': WHATEVER THE INPUT: true; the input reads as it did. -/
def fnExactLeastStartSpec : ChangeSpec := { name := "fnExactLeastStart", fn := fun _ => fun
  | [d1, d2, d3] => { results := [.lit (.bool true)], args := [d1, d2, d3] }
  | _ => none }
def fnExactLeastStartRow : OpenClaim := { program := "ytehebhphlaghfaa", sum := "9de1e5cbf10e76b9f620ad54f76f76953ce58aee095e1c9ad8620eae7845d9c5", func := "loop.example/g00921/laws.FnExactLeastStart", spec := "fnExactLeastStart", unfollowed := true, recurses := true, apart := false }
def FnExactLeastStartSaid : Prop := fnExactLeastStartRow.holds Try.pinned (OpenSpec.ofChange fnExactLeastStartSpec)

/-- ITS FALSE NEIGHBOUR: 'it returns false'. Refute it at one input. -/
def fnExactLeastStartWrong : ChangeSpec := { name := "fnExactLeastStart", fn := fun _ => fun
  | [d1, d2, d3] => { results := [.lit (.bool false)], args := [d1, d2, d3] }
  | _ => none }
def FnExactLeastStartWrongFalsely : Prop := fnExactLeastStartRow.holds Try.pinned (OpenSpec.ofChange fnExactLeastStartWrong)

/-- 'laws.FnExactLeastTorque': WHATEVER THE INPUT: true; the input reads as it did. -/
def fnExactLeastTorqueSpec : ChangeSpec := { name := "fnExactLeastTorque", fn := fun _ => fun
  | [d1, d2, d3] => { results := [.lit (.bool true)], args := [d1, d2, d3] }
  | _ => none }
def fnExactLeastTorqueRow : OpenClaim := { program := "ytehebhphlaghfaa", sum := "9de1e5cbf10e76b9f620ad54f76f76953ce58aee095e1c9ad8620eae7845d9c5", func := "loop.example/g00921/laws.FnExactLeastTorque", spec := "fnExactLeastTorque", unfollowed := true, recurses := true, apart := false }
def FnExactLeastTorqueSaid : Prop := fnExactLeastTorqueRow.holds Try.pinned (OpenSpec.ofChange fnExactLeastTorqueSpec)

/-- ITS FALSE NEIGHBOUR: 'it returns false'. Refute it at one input. -/
def fnExactLeastTorqueWrong : ChangeSpec := { name := "fnExactLeastTorque", fn := fun _ => fun
  | [d1, d2, d3] => { results := [.lit (.bool false)], args := [d1, d2, d3] }
  | _ => none }
def FnExactLeastTorqueWrongFalsely : Prop := fnExactLeastTorqueRow.holds Try.pinned (OpenSpec.ofChange fnExactLeastTorqueWrong)

/-- 'laws.FnExactSwingMany': WHATEVER THE INPUT: true; the input reads as it did. -/
def fnExactSwingManySpec : ChangeSpec := { name := "fnExactSwingMany", fn := fun _ => fun
  | [d1, d2, d3, d4] => { results := [.lit (.bool true)], args := [d1, d2, d3, d4] }
  | _ => none }
def fnExactSwingManyRow : OpenClaim := { program := "ytehebhphlaghfaa", sum := "9de1e5cbf10e76b9f620ad54f76f76953ce58aee095e1c9ad8620eae7845d9c5", func := "loop.example/g00921/laws.FnExactSwingMany", spec := "fnExactSwingMany", apart := false }
def FnExactSwingManySaid : Prop := fnExactSwingManyRow.holds Try.pinned (OpenSpec.ofChange fnExactSwingManySpec)

/-- ITS FALSE NEIGHBOUR: 'it returns false'. Refute it at one input. -/
def fnExactSwingManyWrong : ChangeSpec := { name := "fnExactSwingMany", fn := fun _ => fun
  | [d1, d2, d3, d4] => { results := [.lit (.bool false)], args := [d1, d2, d3, d4] }
  | _ => none }
def FnExactSwingManyWrongFalsely : Prop := fnExactSwingManyRow.holds Try.pinned (OpenSpec.ofChange fnExactSwingManyWrong)

/-- 'laws.FnExactSwingAlong': WHATEVER THE INPUT: true; the input reads as it did. -/
def fnExactSwingAlongSpec : ChangeSpec := { name := "fnExactSwingAlong", fn := fun _ => fun
  | [d1, d2, d3] => { results := [.lit (.bool true)], args := [d1, d2, d3] }
  | _ => none }
def fnExactSwingAlongRow : OpenClaim := { program := "ytehebhphlaghfaa", sum := "9de1e5cbf10e76b9f620ad54f76f76953ce58aee095e1c9ad8620eae7845d9c5", func := "loop.example/g00921/laws.FnExactSwingAlong", spec := "fnExactSwingAlong", apart := false }
def FnExactSwingAlongSaid : Prop := fnExactSwingAlongRow.holds Try.pinned (OpenSpec.ofChange fnExactSwingAlongSpec)

/-- ITS FALSE NEIGHBOUR: 'it returns false'. Refute it at one input. -/
def fnExactSwingAlongWrong : ChangeSpec := { name := "fnExactSwingAlong", fn := fun _ => fun
  | [d1, d2, d3] => { results := [.lit (.bool false)], args := [d1, d2, d3] }
  | _ => none }
def FnExactSwingAlongWrongFalsely : Prop := fnExactSwingAlongRow.holds Try.pinned (OpenSpec.ofChange fnExactSwingAlongWrong)

/-- 'laws.FnStops': WHATEVER THE INPUT: true; the input reads as it did. -/
def fnStopsSpec : ChangeSpec := { name := "fnStops", fn := fun _ => fun
  | [d] => { results := [.lit (.bool true)], args := [d] }
  | _ => none }
def fnStopsRow : OpenClaim := { program := "ytehebhphlaghfaa", sum := "9de1e5cbf10e76b9f620ad54f76f76953ce58aee095e1c9ad8620eae7845d9c5", func := "loop.example/g00921/laws.FnStops", spec := "fnStops", apart := false }
def FnStopsSaid : Prop := fnStopsRow.holds Try.pinned (OpenSpec.ofChange fnStopsSpec)

/-- ITS FALSE NEIGHBOUR: 'it returns false'. Refute it at one input. -/
def fnStopsWrong : ChangeSpec := { name := "fnStops", fn := fun _ => fun
  | [d] => { results := [.lit (.bool false)], args := [d] }
  | _ => none }
def FnStopsWrongFalsely : Prop := fnStopsRow.holds Try.pinned (OpenSpec.ofChange fnStopsWrong)

/-- 'laws.FnLeastTorque': WHATEVER THE INPUT: true; the input reads as it did. -/
def fnLeastTorqueSpec : ChangeSpec := { name := "fnLeastTorque", fn := fun _ => fun
  | [d] => { results := [.lit (.bool true)], args := [d] }
  | _ => none }
def fnLeastTorqueRow : OpenClaim := { program := "ytehebhphlaghfaa", sum := "9de1e5cbf10e76b9f620ad54f76f76953ce58aee095e1c9ad8620eae7845d9c5", func := "loop.example/g00921/laws.FnLeastTorque", spec := "fnLeastTorque", unfollowed := true, recurses := true, apart := false }
def FnLeastTorqueSaid : Prop := fnLeastTorqueRow.holds Try.pinned (OpenSpec.ofChange fnLeastTorqueSpec)

/-- ITS FALSE NEIGHBOUR: 'it returns false'. Refute it at one input. -/
def fnLeastTorqueWrong : ChangeSpec := { name := "fnLeastTorque", fn := fun _ => fun
  | [d] => { results := [.lit (.bool false)], args := [d] }
  | _ => none }
def FnLeastTorqueWrongFalsely : Prop := fnLeastTorqueRow.holds Try.pinned (OpenSpec.ofChange fnLeastTorqueWrong)

/-- 'laws.FnSwings': WHATEVER THE INPUT: true; the input reads as it did. -/
def fnSwingsSpec : ChangeSpec := { name := "fnSwings", fn := fun _ => fun
  | [d] => { results := [.lit (.bool true)], args := [d] }
  | _ => none }
def fnSwingsRow : OpenClaim := { program := "ytehebhphlaghfaa", sum := "9de1e5cbf10e76b9f620ad54f76f76953ce58aee095e1c9ad8620eae7845d9c5", func := "loop.example/g00921/laws.FnSwings", spec := "fnSwings", apart := false }
def FnSwingsSaid : Prop := fnSwingsRow.holds Try.pinned (OpenSpec.ofChange fnSwingsSpec)

/-- ITS FALSE NEIGHBOUR: 'it returns false'. Refute it at one input. -/
def fnSwingsWrong : ChangeSpec := { name := "fnSwings", fn := fun _ => fun
  | [d] => { results := [.lit (.bool false)], args := [d] }
  | _ => none }
def FnSwingsWrongFalsely : Prop := fnSwingsRow.holds Try.pinned (OpenSpec.ofChange fnSwingsWrong)

/- THE SECOND FORM. 'bulk': how many values and letters a reading holds, each counted each time it is reached (what is shared counts as often as it is met; a slice's spare places count too). A statement '..UptoSaid' is the law's where the arguments, and the package variables that the reading takes, are together of bulk at most 1048576: NARROWER than '..Said'. Prove '..Said' where nothing that the law and all that it calls make is longer than what came in: it says more and counts as full. Else prove '..UptoSaid'. A law counts once. -/
mutual
def uptoBulk {H : Type} : DataW H → Nat
  | .lit (.string bytes) => bytes.length + 1
  | .lit _ => 1
  | .nil => 1
  | .ptr d => uptoBulk d + 1
  | .slice elems spare => uptoBulkAll elems + uptoBulkAll spare + 1
  | .agg parts => uptoBulkAll parts + 1
  | .iface _ d => uptoBulk d + 1
  | .map entries => uptoBulkEntries entries + 1
  | .held _ => 1
def uptoBulkAll {H : Type} : List (DataW H) → Nat
  | [] => 0
  | d :: r => uptoBulk d + uptoBulkAll r
def uptoBulkEntries {H : Type} : List (Lit × DataW H) → Nat
  | [] => 0
  | x :: r => uptoBulkEntry x + uptoBulkEntries r
def uptoBulkEntry {H : Type} : Lit × DataW H → Nat
  | (.string bytes, d) => bytes.length + uptoBulk d + 1
  | (_, d) => uptoBulk d + 1
 end
def uptoSmall : (H : Type) → List (DataW H) → Bool := fun _ ds => decide (uptoBulkAll ds ≤ 1048576)
def OpenSpec.upto (s : _root_.Go.ChangeSpec) : _root_.Go.OpenSpec := { _root_.Go.OpenSpec.ofChange s with cond := some uptoSmall }

/-- 'laws.FnExactValidEscapement', WHERE WHAT IT READS IS OF BULK AT MOST 1048576: true; the input reads as it did. -/
def fnExactValidEscapementUptoRow : OpenClaim := { program := "ytehebhphlaghfaa", sum := "9de1e5cbf10e76b9f620ad54f76f76953ce58aee095e1c9ad8620eae7845d9c5", func := "loop.example/g00921/laws.FnExactValidEscapement", spec := "fnExactValidEscapement", apart := false, narrowed := true }
def FnExactValidEscapementUptoSaid : Prop := fnExactValidEscapementUptoRow.holds Try.pinned (OpenSpec.upto fnExactValidEscapementSpec)

/-- 'laws.FnExactValidBeat', WHERE WHAT IT READS IS OF BULK AT MOST 1048576: true; the input reads as it did. -/
def fnExactValidBeatUptoRow : OpenClaim := { program := "ytehebhphlaghfaa", sum := "9de1e5cbf10e76b9f620ad54f76f76953ce58aee095e1c9ad8620eae7845d9c5", func := "loop.example/g00921/laws.FnExactValidBeat", spec := "fnExactValidBeat", apart := false, narrowed := true }
def FnExactValidBeatUptoSaid : Prop := fnExactValidBeatUptoRow.holds Try.pinned (OpenSpec.upto fnExactValidBeatSpec)

/-- 'laws.FnSteady', WHERE WHAT IT READS IS OF BULK AT MOST 1048576: true; the input reads as it did. -/
def fnSteadyUptoRow : OpenClaim := { program := "ytehebhphlaghfaa", sum := "9de1e5cbf10e76b9f620ad54f76f76953ce58aee095e1c9ad8620eae7845d9c5", func := "loop.example/g00921/laws.FnSteady", spec := "fnSteady", apart := false, narrowed := true }
def FnSteadyUptoSaid : Prop := fnSteadyUptoRow.holds Try.pinned (OpenSpec.upto fnSteadySpec)

/-- 'laws.FnExactSteadyEnergy', WHERE WHAT IT READS IS OF BULK AT MOST 1048576: true; the input reads as it did. -/
def fnExactSteadyEnergyUptoRow : OpenClaim := { program := "ytehebhphlaghfaa", sum := "9de1e5cbf10e76b9f620ad54f76f76953ce58aee095e1c9ad8620eae7845d9c5", func := "loop.example/g00921/laws.FnExactSteadyEnergy", spec := "fnExactSteadyEnergy", apart := false, narrowed := true }
def FnExactSteadyEnergyUptoSaid : Prop := fnExactSteadyEnergyUptoRow.holds Try.pinned (OpenSpec.upto fnExactSteadyEnergySpec)

/-- 'laws.FnMoreEnergy', WHERE WHAT IT READS IS OF BULK AT MOST 1048576: true; the input reads as it did. -/
def fnMoreEnergyUptoRow : OpenClaim := { program := "ytehebhphlaghfaa", sum := "9de1e5cbf10e76b9f620ad54f76f76953ce58aee095e1c9ad8620eae7845d9c5", func := "loop.example/g00921/laws.FnMoreEnergy", spec := "fnMoreEnergy", apart := false, narrowed := true }
def FnMoreEnergyUptoSaid : Prop := fnMoreEnergyUptoRow.holds Try.pinned (OpenSpec.upto fnMoreEnergySpec)

/-- 'laws.FnExactStopAfter', WHERE WHAT IT READS IS OF BULK AT MOST 1048576: true; the input reads as it did. -/
def fnExactStopAfterUptoRow : OpenClaim := { program := "ytehebhphlaghfaa", sum := "9de1e5cbf10e76b9f620ad54f76f76953ce58aee095e1c9ad8620eae7845d9c5", func := "loop.example/g00921/laws.FnExactStopAfter", spec := "fnExactStopAfter", apart := false, narrowed := true }
def FnExactStopAfterUptoSaid : Prop := fnExactStopAfterUptoRow.holds Try.pinned (OpenSpec.upto fnExactStopAfterSpec)

/-- 'laws.FnExactSwing', WHERE WHAT IT READS IS OF BULK AT MOST 1048576: true; the input reads as it did. -/
def fnExactSwingUptoRow : OpenClaim := { program := "ytehebhphlaghfaa", sum := "9de1e5cbf10e76b9f620ad54f76f76953ce58aee095e1c9ad8620eae7845d9c5", func := "loop.example/g00921/laws.FnExactSwing", spec := "fnExactSwing", apart := false, narrowed := true }
def FnExactSwingUptoSaid : Prop := fnExactSwingUptoRow.holds Try.pinned (OpenSpec.upto fnExactSwingSpec)

/-- 'laws.FnExactWheelTurns', WHERE WHAT IT READS IS OF BULK AT MOST 1048576: true; the input reads as it did. -/
def fnExactWheelTurnsUptoRow : OpenClaim := { program := "ytehebhphlaghfaa", sum := "9de1e5cbf10e76b9f620ad54f76f76953ce58aee095e1c9ad8620eae7845d9c5", func := "loop.example/g00921/laws.FnExactWheelTurns", spec := "fnExactWheelTurns", apart := false, narrowed := true }
def FnExactWheelTurnsUptoSaid : Prop := fnExactWheelTurnsUptoRow.holds Try.pinned (OpenSpec.upto fnExactWheelTurnsSpec)

/-- 'laws.FnExactLeastStart', WHERE WHAT IT READS IS OF BULK AT MOST 1048576: true; the input reads as it did. -/
def fnExactLeastStartUptoRow : OpenClaim := { program := "ytehebhphlaghfaa", sum := "9de1e5cbf10e76b9f620ad54f76f76953ce58aee095e1c9ad8620eae7845d9c5", func := "loop.example/g00921/laws.FnExactLeastStart", spec := "fnExactLeastStart", unfollowed := true, recurses := true, apart := false, narrowed := true }
def FnExactLeastStartUptoSaid : Prop := fnExactLeastStartUptoRow.holds Try.pinned (OpenSpec.upto fnExactLeastStartSpec)

/-- 'laws.FnExactLeastTorque', WHERE WHAT IT READS IS OF BULK AT MOST 1048576: true; the input reads as it did. -/
def fnExactLeastTorqueUptoRow : OpenClaim := { program := "ytehebhphlaghfaa", sum := "9de1e5cbf10e76b9f620ad54f76f76953ce58aee095e1c9ad8620eae7845d9c5", func := "loop.example/g00921/laws.FnExactLeastTorque", spec := "fnExactLeastTorque", unfollowed := true, recurses := true, apart := false, narrowed := true }
def FnExactLeastTorqueUptoSaid : Prop := fnExactLeastTorqueUptoRow.holds Try.pinned (OpenSpec.upto fnExactLeastTorqueSpec)

/-- 'laws.FnExactSwingMany', WHERE WHAT IT READS IS OF BULK AT MOST 1048576: true; the input reads as it did. -/
def fnExactSwingManyUptoRow : OpenClaim := { program := "ytehebhphlaghfaa", sum := "9de1e5cbf10e76b9f620ad54f76f76953ce58aee095e1c9ad8620eae7845d9c5", func := "loop.example/g00921/laws.FnExactSwingMany", spec := "fnExactSwingMany", apart := false, narrowed := true }
def FnExactSwingManyUptoSaid : Prop := fnExactSwingManyUptoRow.holds Try.pinned (OpenSpec.upto fnExactSwingManySpec)

/-- 'laws.FnExactSwingAlong', WHERE WHAT IT READS IS OF BULK AT MOST 1048576: true; the input reads as it did. -/
def fnExactSwingAlongUptoRow : OpenClaim := { program := "ytehebhphlaghfaa", sum := "9de1e5cbf10e76b9f620ad54f76f76953ce58aee095e1c9ad8620eae7845d9c5", func := "loop.example/g00921/laws.FnExactSwingAlong", spec := "fnExactSwingAlong", apart := false, narrowed := true }
def FnExactSwingAlongUptoSaid : Prop := fnExactSwingAlongUptoRow.holds Try.pinned (OpenSpec.upto fnExactSwingAlongSpec)

/-- 'laws.FnStops', WHERE WHAT IT READS IS OF BULK AT MOST 1048576: true; the input reads as it did. -/
def fnStopsUptoRow : OpenClaim := { program := "ytehebhphlaghfaa", sum := "9de1e5cbf10e76b9f620ad54f76f76953ce58aee095e1c9ad8620eae7845d9c5", func := "loop.example/g00921/laws.FnStops", spec := "fnStops", apart := false, narrowed := true }
def FnStopsUptoSaid : Prop := fnStopsUptoRow.holds Try.pinned (OpenSpec.upto fnStopsSpec)

/-- 'laws.FnLeastTorque', WHERE WHAT IT READS IS OF BULK AT MOST 1048576: true; the input reads as it did. -/
def fnLeastTorqueUptoRow : OpenClaim := { program := "ytehebhphlaghfaa", sum := "9de1e5cbf10e76b9f620ad54f76f76953ce58aee095e1c9ad8620eae7845d9c5", func := "loop.example/g00921/laws.FnLeastTorque", spec := "fnLeastTorque", unfollowed := true, recurses := true, apart := false, narrowed := true }
def FnLeastTorqueUptoSaid : Prop := fnLeastTorqueUptoRow.holds Try.pinned (OpenSpec.upto fnLeastTorqueSpec)

/-- 'laws.FnSwings', WHERE WHAT IT READS IS OF BULK AT MOST 1048576: true; the input reads as it did. -/
def fnSwingsUptoRow : OpenClaim := { program := "ytehebhphlaghfaa", sum := "9de1e5cbf10e76b9f620ad54f76f76953ce58aee095e1c9ad8620eae7845d9c5", func := "loop.example/g00921/laws.FnSwings", spec := "fnSwings", apart := false, narrowed := true }
def FnSwingsUptoSaid : Prop := fnSwingsUptoRow.holds Try.pinned (OpenSpec.upto fnSwingsSpec)

end Rows
end Go.Proofs.Ytehebhphlaghfaa
