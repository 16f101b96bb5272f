/-
  No cell of these rows narrows 'for every input' (looked for: loops, veiled, ifaces, maps, wideKeys, modest, calm, conditions, laid).
  DERIVED. THE GIVEN ROWS OF THIS SEAT. 15 by the template 'for every input the law returns true; each argument reads behind the call as it read before'; 0 by the template 'total and deterministic' (their statements: YtiodlbgfgeimoaaTotals.lean).
  GIVEN WITH THE SEED: the statements are not yours to turn. If you find one false, say at which input.
  Laid BY PROGRAM, IN A SANDBOX (cutbox-rows.mjs): the forced cells as the released guide's own fill.sh prints them over the translation 07979ee4ea0e3467… (all of the seat's roots in one cut). By AI agents, Wed Nov 11 2026. No macro, syntax, notation, axiom, sorry.
-/
import Derived.Test.YtiodlbgfgeimoaaChecked
import GoSem.Claim
import GoSem.ClaimJoined
import GoSem.ClaimMapViews
import Derived.JoinedTies
import Derived.KernelRfl
namespace Go.Proofs.Ytiodlbgfgeimoaa
/- THE CELL 'sum', in the pinned program and in every row, IS THE sha256 OF THE DUMP (.gsa) THAT YtiodlbgfgeimoaaProg.lean LOADS. Nothing in Lean hashes anything: it is a label: what it is worth is what the hold of that sum in a sandbox is worth. -/
noncomputable def Try.pinned : Pinned := { name := "ytiodlbgfgeimoaa", sum := "07979ee4ea0e3467f924ebecd1604cfff7d18837a31b499a752c1bc5af9b1341", checked := Try.checked }
namespace Rows
def none {H : Type} : Left H := { results := [], args := [] }

/-- 'laws.FnExactValidRate': WHATEVER THE INPUT: true; the input reads as it did. -/
def fnExactValidRateSpec : ChangeSpec := { name := "fnExactValidRate", fn := fun _ => fun
  | [d] => { results := [.lit (.bool true)], args := [d] }
  | _ => none }
def fnExactValidRateRow : OpenClaim := { program := "ytiodlbgfgeimoaa", sum := "07979ee4ea0e3467f924ebecd1604cfff7d18837a31b499a752c1bc5af9b1341", func := "loop.example/g00921/laws.FnExactValidRate", spec := "fnExactValidRate", apart := false }
def FnExactValidRateSaid : Prop := fnExactValidRateRow.holds Try.pinned (OpenSpec.ofChange fnExactValidRateSpec)

/-- ITS FALSE NEIGHBOUR: 'it returns false'. Refute it at one input. -/
def fnExactValidRateWrong : ChangeSpec := { name := "fnExactValidRate", fn := fun _ => fun
  | [d] => { results := [.lit (.bool false)], args := [d] }
  | _ => none }
def FnExactValidRateWrongFalsely : Prop := fnExactValidRateRow.holds Try.pinned (OpenSpec.ofChange fnExactValidRateWrong)

/-- 'laws.FnExactRateAt': WHATEVER THE INPUT: true; the input reads as it did. -/
def fnExactRateAtSpec : ChangeSpec := { name := "fnExactRateAt", fn := fun _ => fun
  | [d1, d2] => { results := [.lit (.bool true)], args := [d1, d2] }
  | _ => none }
def fnExactRateAtRow : OpenClaim := { program := "ytiodlbgfgeimoaa", sum := "07979ee4ea0e3467f924ebecd1604cfff7d18837a31b499a752c1bc5af9b1341", func := "loop.example/g00921/laws.FnExactRateAt", spec := "fnExactRateAt", apart := false }
def FnExactRateAtSaid : Prop := fnExactRateAtRow.holds Try.pinned (OpenSpec.ofChange fnExactRateAtSpec)

/-- ITS FALSE NEIGHBOUR: 'it returns false'. Refute it at one input. -/
def fnExactRateAtWrong : ChangeSpec := { name := "fnExactRateAt", fn := fun _ => fun
  | [d1, d2] => { results := [.lit (.bool false)], args := [d1, d2] }
  | _ => none }
def FnExactRateAtWrongFalsely : Prop := fnExactRateAtRow.holds Try.pinned (OpenSpec.ofChange fnExactRateAtWrong)

/-- 'laws.FnExactOtherTemp': WHATEVER THE INPUT: true; the input reads as it did. -/
def fnExactOtherTempSpec : ChangeSpec := { name := "fnExactOtherTemp", fn := fun _ => fun
  | [d1, d2] => { results := [.lit (.bool true)], args := [d1, d2] }
  | _ => none }
def fnExactOtherTempRow : OpenClaim := { program := "ytiodlbgfgeimoaa", sum := "07979ee4ea0e3467f924ebecd1604cfff7d18837a31b499a752c1bc5af9b1341", func := "loop.example/g00921/laws.FnExactOtherTemp", spec := "fnExactOtherTemp", apart := false }
def FnExactOtherTempSaid : Prop := fnExactOtherTempRow.holds Try.pinned (OpenSpec.ofChange fnExactOtherTempSpec)

/-- ITS FALSE NEIGHBOUR: 'it returns false'. Refute it at one input. -/
def fnExactOtherTempWrong : ChangeSpec := { name := "fnExactOtherTemp", fn := fun _ => fun
  | [d1, d2] => { results := [.lit (.bool false)], args := [d1, d2] }
  | _ => none }
def FnExactOtherTempWrongFalsely : Prop := fnExactOtherTempRow.holds Try.pinned (OpenSpec.ofChange fnExactOtherTempWrong)

/-- 'laws.FnExactValidSegments': WHATEVER THE INPUT: true; the input reads as it did. -/
def fnExactValidSegmentsSpec : ChangeSpec := { name := "fnExactValidSegments", fn := fun _ => fun
  | [d] => { results := [.lit (.bool true)], args := [d] }
  | _ => none }
def fnExactValidSegmentsRow : OpenClaim := { program := "ytiodlbgfgeimoaa", sum := "07979ee4ea0e3467f924ebecd1604cfff7d18837a31b499a752c1bc5af9b1341", func := "loop.example/g00921/laws.FnExactValidSegments", spec := "fnExactValidSegments", apart := false }
def FnExactValidSegmentsSaid : Prop := fnExactValidSegmentsRow.holds Try.pinned (OpenSpec.ofChange fnExactValidSegmentsSpec)

/-- ITS FALSE NEIGHBOUR: 'it returns false'. Refute it at one input. -/
def fnExactValidSegmentsWrong : ChangeSpec := { name := "fnExactValidSegments", fn := fun _ => fun
  | [d] => { results := [.lit (.bool false)], args := [d] }
  | _ => none }
def FnExactValidSegmentsWrongFalsely : Prop := fnExactValidSegmentsRow.holds Try.pinned (OpenSpec.ofChange fnExactValidSegmentsWrong)

/-- 'laws.FnExactBalancePoint': WHATEVER THE INPUT: true; the input reads as it did. -/
def fnExactBalancePointSpec : ChangeSpec := { name := "fnExactBalancePoint", fn := fun _ => fun
  | [d] => { results := [.lit (.bool true)], args := [d] }
  | _ => none }
def fnExactBalancePointRow : OpenClaim := { program := "ytiodlbgfgeimoaa", sum := "07979ee4ea0e3467f924ebecd1604cfff7d18837a31b499a752c1bc5af9b1341", func := "loop.example/g00921/laws.FnExactBalancePoint", spec := "fnExactBalancePoint", apart := false }
def FnExactBalancePointSaid : Prop := fnExactBalancePointRow.holds Try.pinned (OpenSpec.ofChange fnExactBalancePointSpec)

/-- ITS FALSE NEIGHBOUR: 'it returns false'. Refute it at one input. -/
def fnExactBalancePointWrong : ChangeSpec := { name := "fnExactBalancePoint", fn := fun _ => fun
  | [d] => { results := [.lit (.bool false)], args := [d] }
  | _ => none }
def FnExactBalancePointWrongFalsely : Prop := fnExactBalancePointRow.holds Try.pinned (OpenSpec.ofChange fnExactBalancePointWrong)

/-- 'laws.FnExactMergeSegments': WHATEVER THE INPUT: true; the input reads as it did. -/
def fnExactMergeSegmentsSpec : ChangeSpec := { name := "fnExactMergeSegments", fn := fun _ => fun
  | [d] => { results := [.lit (.bool true)], args := [d] }
  | _ => none }
def fnExactMergeSegmentsRow : OpenClaim := { program := "ytiodlbgfgeimoaa", sum := "07979ee4ea0e3467f924ebecd1604cfff7d18837a31b499a752c1bc5af9b1341", func := "loop.example/g00921/laws.FnExactMergeSegments", spec := "fnExactMergeSegments", apart := false }
def FnExactMergeSegmentsSaid : Prop := fnExactMergeSegmentsRow.holds Try.pinned (OpenSpec.ofChange fnExactMergeSegmentsSpec)

/-- ITS FALSE NEIGHBOUR: 'it returns false'. Refute it at one input. -/
def fnExactMergeSegmentsWrong : ChangeSpec := { name := "fnExactMergeSegments", fn := fun _ => fun
  | [d] => { results := [.lit (.bool false)], args := [d] }
  | _ => none }
def FnExactMergeSegmentsWrongFalsely : Prop := fnExactMergeSegmentsRow.holds Try.pinned (OpenSpec.ofChange fnExactMergeSegmentsWrong)

/-- 'laws.FnExactDriftSum': WHATEVER THE INPUT: true; the input reads as it did. -/
def fnExactDriftSumSpec : ChangeSpec := { name := "fnExactDriftSum", fn := fun _ => fun
  | [d1, d2] => { results := [.lit (.bool true)], args := [d1, d2] }
  | _ => none }
def fnExactDriftSumRow : OpenClaim := { program := "ytiodlbgfgeimoaa", sum := "07979ee4ea0e3467f924ebecd1604cfff7d18837a31b499a752c1bc5af9b1341", func := "loop.example/g00921/laws.FnExactDriftSum", spec := "fnExactDriftSum", apart := false }
def FnExactDriftSumSaid : Prop := fnExactDriftSumRow.holds Try.pinned (OpenSpec.ofChange fnExactDriftSumSpec)

/-- ITS FALSE NEIGHBOUR: 'it returns false'. Refute it at one input. -/
def fnExactDriftSumWrong : ChangeSpec := { name := "fnExactDriftSum", fn := fun _ => fun
  | [d1, d2] => { results := [.lit (.bool false)], args := [d1, d2] }
  | _ => none }
def FnExactDriftSumWrongFalsely : Prop := fnExactDriftSumRow.holds Try.pinned (OpenSpec.ofChange fnExactDriftSumWrong)

/-- 'laws.FnExactWorstSegment': WHATEVER THE INPUT: true; the input reads as it did. -/
def fnExactWorstSegmentSpec : ChangeSpec := { name := "fnExactWorstSegment", fn := fun _ => fun
  | [d1, d2] => { results := [.lit (.bool true)], args := [d1, d2] }
  | _ => none }
def fnExactWorstSegmentRow : OpenClaim := { program := "ytiodlbgfgeimoaa", sum := "07979ee4ea0e3467f924ebecd1604cfff7d18837a31b499a752c1bc5af9b1341", func := "loop.example/g00921/laws.FnExactWorstSegment", spec := "fnExactWorstSegment", apart := false }
def FnExactWorstSegmentSaid : Prop := fnExactWorstSegmentRow.holds Try.pinned (OpenSpec.ofChange fnExactWorstSegmentSpec)

/-- ITS FALSE NEIGHBOUR: 'it returns false'. Refute it at one input. -/
def fnExactWorstSegmentWrong : ChangeSpec := { name := "fnExactWorstSegment", fn := fun _ => fun
  | [d1, d2] => { results := [.lit (.bool false)], args := [d1, d2] }
  | _ => none }
def FnExactWorstSegmentWrongFalsely : Prop := fnExactWorstSegmentRow.holds Try.pinned (OpenSpec.ofChange fnExactWorstSegmentWrong)

/-- 'laws.FnExactMeanTemp': WHATEVER THE INPUT: true; the input reads as it did. -/
def fnExactMeanTempSpec : ChangeSpec := { name := "fnExactMeanTemp", fn := fun _ => fun
  | [d] => { results := [.lit (.bool true)], args := [d] }
  | _ => none }
def fnExactMeanTempRow : OpenClaim := { program := "ytiodlbgfgeimoaa", sum := "07979ee4ea0e3467f924ebecd1604cfff7d18837a31b499a752c1bc5af9b1341", func := "loop.example/g00921/laws.FnExactMeanTemp", spec := "fnExactMeanTemp", apart := false }
def FnExactMeanTempSaid : Prop := fnExactMeanTempRow.holds Try.pinned (OpenSpec.ofChange fnExactMeanTempSpec)

/-- ITS FALSE NEIGHBOUR: 'it returns false'. Refute it at one input. -/
def fnExactMeanTempWrong : ChangeSpec := { name := "fnExactMeanTemp", fn := fun _ => fun
  | [d] => { results := [.lit (.bool false)], args := [d] }
  | _ => none }
def FnExactMeanTempWrongFalsely : Prop := fnExactMeanTempRow.holds Try.pinned (OpenSpec.ofChange fnExactMeanTempWrong)

/-- 'laws.FnExactDriftsAfter': WHATEVER THE INPUT: true; the input reads as it did. -/
def fnExactDriftsAfterSpec : ChangeSpec := { name := "fnExactDriftsAfter", fn := fun _ => fun
  | [d1, d2] => { results := [.lit (.bool true)], args := [d1, d2] }
  | _ => none }
def fnExactDriftsAfterRow : OpenClaim := { program := "ytiodlbgfgeimoaa", sum := "07979ee4ea0e3467f924ebecd1604cfff7d18837a31b499a752c1bc5af9b1341", func := "loop.example/g00921/laws.FnExactDriftsAfter", spec := "fnExactDriftsAfter", apart := false }
def FnExactDriftsAfterSaid : Prop := fnExactDriftsAfterRow.holds Try.pinned (OpenSpec.ofChange fnExactDriftsAfterSpec)

/-- ITS FALSE NEIGHBOUR: 'it returns false'. Refute it at one input. -/
def fnExactDriftsAfterWrong : ChangeSpec := { name := "fnExactDriftsAfter", fn := fun _ => fun
  | [d1, d2] => { results := [.lit (.bool false)], args := [d1, d2] }
  | _ => none }
def FnExactDriftsAfterWrongFalsely : Prop := fnExactDriftsAfterRow.holds Try.pinned (OpenSpec.ofChange fnExactDriftsAfterWrong)

/-- 'laws.FnExactBestBase': WHATEVER THE INPUT: true; the input reads as it did. -/
def fnExactBestBaseSpec : ChangeSpec := { name := "fnExactBestBase", fn := fun _ => fun
  | [d1, d2] => { results := [.lit (.bool true)], args := [d1, d2] }
  | _ => none }
def fnExactBestBaseRow : OpenClaim := { program := "ytiodlbgfgeimoaa", sum := "07979ee4ea0e3467f924ebecd1604cfff7d18837a31b499a752c1bc5af9b1341", func := "loop.example/g00921/laws.FnExactBestBase", spec := "fnExactBestBase", apart := false }
def FnExactBestBaseSaid : Prop := fnExactBestBaseRow.holds Try.pinned (OpenSpec.ofChange fnExactBestBaseSpec)

/-- ITS FALSE NEIGHBOUR: 'it returns false'. Refute it at one input. -/
def fnExactBestBaseWrong : ChangeSpec := { name := "fnExactBestBase", fn := fun _ => fun
  | [d1, d2] => { results := [.lit (.bool false)], args := [d1, d2] }
  | _ => none }
def FnExactBestBaseWrongFalsely : Prop := fnExactBestBaseRow.holds Try.pinned (OpenSpec.ofChange fnExactBestBaseWrong)

/-- 'laws.FnBalance': WHATEVER THE INPUT: true; the input reads as it did. -/
def fnBalanceSpec : ChangeSpec := { name := "fnBalance", fn := fun _ => fun
  | [d] => { results := [.lit (.bool true)], args := [d] }
  | _ => none }
def fnBalanceRow : OpenClaim := { program := "ytiodlbgfgeimoaa", sum := "07979ee4ea0e3467f924ebecd1604cfff7d18837a31b499a752c1bc5af9b1341", func := "loop.example/g00921/laws.FnBalance", spec := "fnBalance", apart := false }
def FnBalanceSaid : Prop := fnBalanceRow.holds Try.pinned (OpenSpec.ofChange fnBalanceSpec)

/-- ITS FALSE NEIGHBOUR: 'it returns false'. Refute it at one input. -/
def fnBalanceWrong : ChangeSpec := { name := "fnBalance", fn := fun _ => fun
  | [d] => { results := [.lit (.bool false)], args := [d] }
  | _ => none }
def FnBalanceWrongFalsely : Prop := fnBalanceRow.holds Try.pinned (OpenSpec.ofChange fnBalanceWrong)

/-- 'laws.FnMergedSegments': WHATEVER THE INPUT: true; the input reads as it did. -/
def fnMergedSegmentsSpec : ChangeSpec := { name := "fnMergedSegments", fn := fun _ => fun
  | [d] => { results := [.lit (.bool true)], args := [d] }
  | _ => none }
def fnMergedSegmentsRow : OpenClaim := { program := "ytiodlbgfgeimoaa", sum := "07979ee4ea0e3467f924ebecd1604cfff7d18837a31b499a752c1bc5af9b1341", func := "loop.example/g00921/laws.FnMergedSegments", spec := "fnMergedSegments", apart := false }
def FnMergedSegmentsSaid : Prop := fnMergedSegmentsRow.holds Try.pinned (OpenSpec.ofChange fnMergedSegmentsSpec)

/-- ITS FALSE NEIGHBOUR: 'it returns false'. Refute it at one input. -/
def fnMergedSegmentsWrong : ChangeSpec := { name := "fnMergedSegments", fn := fun _ => fun
  | [d] => { results := [.lit (.bool false)], args := [d] }
  | _ => none }
def FnMergedSegmentsWrongFalsely : Prop := fnMergedSegmentsRow.holds Try.pinned (OpenSpec.ofChange fnMergedSegmentsWrong)

/-- 'laws.FnBestBase': WHATEVER THE INPUT: true; the input reads as it did. -/
def fnBestBaseSpec : ChangeSpec := { name := "fnBestBase", fn := fun _ => fun
  | [d] => { results := [.lit (.bool true)], args := [d] }
  | _ => none }
def fnBestBaseRow : OpenClaim := { program := "ytiodlbgfgeimoaa", sum := "07979ee4ea0e3467f924ebecd1604cfff7d18837a31b499a752c1bc5af9b1341", func := "loop.example/g00921/laws.FnBestBase", spec := "fnBestBase", apart := false }
def FnBestBaseSaid : Prop := fnBestBaseRow.holds Try.pinned (OpenSpec.ofChange fnBestBaseSpec)

/-- ITS FALSE NEIGHBOUR: 'it returns false'. Refute it at one input. -/
def fnBestBaseWrong : ChangeSpec := { name := "fnBestBase", fn := fun _ => fun
  | [d] => { results := [.lit (.bool false)], args := [d] }
  | _ => none }
def FnBestBaseWrongFalsely : Prop := fnBestBaseRow.holds Try.pinned (OpenSpec.ofChange fnBestBaseWrong)

/-- 'laws.FnDrifts': WHATEVER THE INPUT: true; the input reads as it did. -/
def fnDriftsSpec : ChangeSpec := { name := "fnDrifts", fn := fun _ => fun
  | [d] => { results := [.lit (.bool true)], args := [d] }
  | _ => none }
def fnDriftsRow : OpenClaim := { program := "ytiodlbgfgeimoaa", sum := "07979ee4ea0e3467f924ebecd1604cfff7d18837a31b499a752c1bc5af9b1341", func := "loop.example/g00921/laws.FnDrifts", spec := "fnDrifts", apart := false }
def FnDriftsSaid : Prop := fnDriftsRow.holds Try.pinned (OpenSpec.ofChange fnDriftsSpec)

/-- ITS FALSE NEIGHBOUR: 'it returns false'. Refute it at one input. -/
def fnDriftsWrong : ChangeSpec := { name := "fnDrifts", fn := fun _ => fun
  | [d] => { results := [.lit (.bool false)], args := [d] }
  | _ => none }
def FnDriftsWrongFalsely : Prop := fnDriftsRow.holds Try.pinned (OpenSpec.ofChange fnDriftsWrong)

/- THE SECOND FORM. 'bulk': how many values and letters a reading holds, each counted each time it is reached (what is shared counts as often as it is met; a slice's spare places count too). A statement '..UptoSaid' is the law's where the arguments, and the package variables that the reading takes, are together of bulk at most 1048576: NARROWER than '..Said'. Prove '..Said' where nothing that the law and all that it calls make is longer than what came in: it says more and counts as full. Else prove '..UptoSaid'. A law counts once. -/
mutual
def uptoBulk {H : Type} : DataW H → Nat
  | .lit (.string bytes) => bytes.length + 1
  | .lit _ => 1
  | .nil => 1
  | .ptr d => uptoBulk d + 1
  | .slice elems spare => uptoBulkAll elems + uptoBulkAll spare + 1
  | .agg parts => uptoBulkAll parts + 1
  | .iface _ d => uptoBulk d + 1
  | .map entries => uptoBulkEntries entries + 1
  | .held _ => 1
def uptoBulkAll {H : Type} : List (DataW H) → Nat
  | [] => 0
  | d :: r => uptoBulk d + uptoBulkAll r
def uptoBulkEntries {H : Type} : List (Lit × DataW H) → Nat
  | [] => 0
  | x :: r => uptoBulkEntry x + uptoBulkEntries r
def uptoBulkEntry {H : Type} : Lit × DataW H → Nat
  | (.string bytes, d) => bytes.length + uptoBulk d + 1
  | (_, d) => uptoBulk d + 1
 end
def uptoSmall : (H : Type) → List (DataW H) → Bool := fun _ ds => decide (uptoBulkAll ds ≤ 1048576)
def OpenSpec.upto (s : _root_.Go.ChangeSpec) : _root_.Go.OpenSpec := { _root_.Go.OpenSpec.ofChange s with cond := some uptoSmall }

/-- 'laws.FnExactValidRate', WHERE WHAT IT READS IS OF BULK AT MOST 1048576: true; the input reads as it did. -/
def fnExactValidRateUptoRow : OpenClaim := { program := "ytiodlbgfgeimoaa", sum := "07979ee4ea0e3467f924ebecd1604cfff7d18837a31b499a752c1bc5af9b1341", func := "loop.example/g00921/laws.FnExactValidRate", spec := "fnExactValidRate", apart := false, narrowed := true }
def FnExactValidRateUptoSaid : Prop := fnExactValidRateUptoRow.holds Try.pinned (OpenSpec.upto fnExactValidRateSpec)

/-- 'laws.FnExactRateAt', WHERE WHAT IT READS IS OF BULK AT MOST 1048576: true; the input reads as it did. -/
def fnExactRateAtUptoRow : OpenClaim := { program := "ytiodlbgfgeimoaa", sum := "07979ee4ea0e3467f924ebecd1604cfff7d18837a31b499a752c1bc5af9b1341", func := "loop.example/g00921/laws.FnExactRateAt", spec := "fnExactRateAt", apart := false, narrowed := true }
def FnExactRateAtUptoSaid : Prop := fnExactRateAtUptoRow.holds Try.pinned (OpenSpec.upto fnExactRateAtSpec)

/-- 'laws.FnExactOtherTemp', WHERE WHAT IT READS IS OF BULK AT MOST 1048576: true; the input reads as it did. -/
def fnExactOtherTempUptoRow : OpenClaim := { program := "ytiodlbgfgeimoaa", sum := "07979ee4ea0e3467f924ebecd1604cfff7d18837a31b499a752c1bc5af9b1341", func := "loop.example/g00921/laws.FnExactOtherTemp", spec := "fnExactOtherTemp", apart := false, narrowed := true }
def FnExactOtherTempUptoSaid : Prop := fnExactOtherTempUptoRow.holds Try.pinned (OpenSpec.upto fnExactOtherTempSpec)

/-- 'laws.FnExactValidSegments', WHERE WHAT IT READS IS OF BULK AT MOST 1048576: true; the input reads as it did. -/
def fnExactValidSegmentsUptoRow : OpenClaim := { program := "ytiodlbgfgeimoaa", sum := "07979ee4ea0e3467f924ebecd1604cfff7d18837a31b499a752c1bc5af9b1341", func := "loop.example/g00921/laws.FnExactValidSegments", spec := "fnExactValidSegments", apart := false, narrowed := true }
def FnExactValidSegmentsUptoSaid : Prop := fnExactValidSegmentsUptoRow.holds Try.pinned (OpenSpec.upto fnExactValidSegmentsSpec)

/-- 'laws.FnExactBalancePoint', WHERE WHAT IT READS IS OF BULK AT MOST 1048576: true; the input reads as it did. -/
def fnExactBalancePointUptoRow : OpenClaim := { program := "ytiodlbgfgeimoaa", sum := "07979ee4ea0e3467f924ebecd1604cfff7d18837a31b499a752c1bc5af9b1341", func := "loop.example/g00921/laws.FnExactBalancePoint", spec := "fnExactBalancePoint", apart := false, narrowed := true }
def FnExactBalancePointUptoSaid : Prop := fnExactBalancePointUptoRow.holds Try.pinned (OpenSpec.upto fnExactBalancePointSpec)

/-- 'laws.FnExactMergeSegments', WHERE WHAT IT READS IS OF BULK AT MOST 1048576: true; the input reads as it did. -/
def fnExactMergeSegmentsUptoRow : OpenClaim := { program := "ytiodlbgfgeimoaa", sum := "07979ee4ea0e3467f924ebecd1604cfff7d18837a31b499a752c1bc5af9b1341", func := "loop.example/g00921/laws.FnExactMergeSegments", spec := "fnExactMergeSegments", apart := false, narrowed := true }
def FnExactMergeSegmentsUptoSaid : Prop := fnExactMergeSegmentsUptoRow.holds Try.pinned (OpenSpec.upto fnExactMergeSegmentsSpec)

/-- 'laws.FnExactDriftSum', WHERE WHAT IT READS IS OF BULK AT MOST 1048576: true; the input reads as it did. -/
def fnExactDriftSumUptoRow : OpenClaim := { program := "ytiodlbgfgeimoaa", sum := "07979ee4ea0e3467f924ebecd1604cfff7d18837a31b499a752c1bc5af9b1341", func := "loop.example/g00921/laws.FnExactDriftSum", spec := "fnExactDriftSum", apart := false, narrowed := true }
def FnExactDriftSumUptoSaid : Prop := fnExactDriftSumUptoRow.holds Try.pinned (OpenSpec.upto fnExactDriftSumSpec)

/-- 'laws.FnExactWorstSegment', WHERE WHAT IT READS IS OF BULK AT MOST 1048576: true; the input reads as it did. -/
def fnExactWorstSegmentUptoRow : OpenClaim := { program := "ytiodlbgfgeimoaa", sum := "07979ee4ea0e3467f924ebecd1604cfff7d18837a31b499a752c1bc5af9b1341", func := "loop.example/g00921/laws.FnExactWorstSegment", spec := "fnExactWorstSegment", apart := false, narrowed := true }
def FnExactWorstSegmentUptoSaid : Prop := fnExactWorstSegmentUptoRow.holds Try.pinned (OpenSpec.upto fnExactWorstSegmentSpec)

/-- 'laws.FnExactMeanTemp', WHERE WHAT IT READS IS OF BULK AT MOST 1048576: true; the input reads as it did. -/
def fnExactMeanTempUptoRow : OpenClaim := { program := "ytiodlbgfgeimoaa", sum := "07979ee4ea0e3467f924ebecd1604cfff7d18837a31b499a752c1bc5af9b1341", func := "loop.example/g00921/laws.FnExactMeanTemp", spec := "fnExactMeanTemp", apart := false, narrowed := true }
def FnExactMeanTempUptoSaid : Prop := fnExactMeanTempUptoRow.holds Try.pinned (OpenSpec.upto fnExactMeanTempSpec)

/-- 'laws.FnExactDriftsAfter', WHERE WHAT IT READS IS OF BULK AT MOST 1048576: true; the input reads as it did. -/
def fnExactDriftsAfterUptoRow : OpenClaim := { program := "ytiodlbgfgeimoaa", sum := "07979ee4ea0e3467f924ebecd1604cfff7d18837a31b499a752c1bc5af9b1341", func := "loop.example/g00921/laws.FnExactDriftsAfter", spec := "fnExactDriftsAfter", apart := false, narrowed := true }
def FnExactDriftsAfterUptoSaid : Prop := fnExactDriftsAfterUptoRow.holds Try.pinned (OpenSpec.upto fnExactDriftsAfterSpec)

/-- 'laws.FnExactBestBase', WHERE WHAT IT READS IS OF BULK AT MOST 1048576: true; the input reads as it did. -/
def fnExactBestBaseUptoRow : OpenClaim := { program := "ytiodlbgfgeimoaa", sum := "07979ee4ea0e3467f924ebecd1604cfff7d18837a31b499a752c1bc5af9b1341", func := "loop.example/g00921/laws.FnExactBestBase", spec := "fnExactBestBase", apart := false, narrowed := true }
def FnExactBestBaseUptoSaid : Prop := fnExactBestBaseUptoRow.holds Try.pinned (OpenSpec.upto fnExactBestBaseSpec)

/-- 'laws.FnBalance', WHERE WHAT IT READS IS OF BULK AT MOST 1048576: true; the input reads as it did. -/
def fnBalanceUptoRow : OpenClaim := { program := "ytiodlbgfgeimoaa", sum := "07979ee4ea0e3467f924ebecd1604cfff7d18837a31b499a752c1bc5af9b1341", func := "loop.example/g00921/laws.FnBalance", spec := "fnBalance", apart := false, narrowed := true }
def FnBalanceUptoSaid : Prop := fnBalanceUptoRow.holds Try.pinned (OpenSpec.upto fnBalanceSpec)

/-- 'laws.FnMergedSegments', WHERE WHAT IT READS IS OF BULK AT MOST 1048576: true; the input reads as it did. -/
def fnMergedSegmentsUptoRow : OpenClaim := { program := "ytiodlbgfgeimoaa", sum := "07979ee4ea0e3467f924ebecd1604cfff7d18837a31b499a752c1bc5af9b1341", func := "loop.example/g00921/laws.FnMergedSegments", spec := "fnMergedSegments", apart := false, narrowed := true }
def FnMergedSegmentsUptoSaid : Prop := fnMergedSegmentsUptoRow.holds Try.pinned (OpenSpec.upto fnMergedSegmentsSpec)

/-- 'laws.FnBestBase', WHERE WHAT IT READS IS OF BULK AT MOST 1048576: true; the input reads as it did. -/
def fnBestBaseUptoRow : OpenClaim := { program := "ytiodlbgfgeimoaa", sum := "07979ee4ea0e3467f924ebecd1604cfff7d18837a31b499a752c1bc5af9b1341", func := "loop.example/g00921/laws.FnBestBase", spec := "fnBestBase", apart := false, narrowed := true }
def FnBestBaseUptoSaid : Prop := fnBestBaseUptoRow.holds Try.pinned (OpenSpec.upto fnBestBaseSpec)

/-- 'laws.FnDrifts', WHERE WHAT IT READS IS OF BULK AT MOST 1048576: true; the input reads as it did. -/
def fnDriftsUptoRow : OpenClaim := { program := "ytiodlbgfgeimoaa", sum := "07979ee4ea0e3467f924ebecd1604cfff7d18837a31b499a752c1bc5af9b1341", func := "loop.example/g00921/laws.FnDrifts", spec := "fnDrifts", apart := false, narrowed := true }
def FnDriftsUptoSaid : Prop := fnDriftsUptoRow.holds Try.pinned (OpenSpec.upto fnDriftsSpec)

end Rows
end Go.Proofs.Ytiodlbgfgeimoaa
