/-
  No cell of these rows narrows 'for every input' (looked for: loops, veiled, ifaces, maps, wideKeys, modest, calm, conditions, laid).
  DERIVED. THE GIVEN ROWS OF THIS SEAT. 11 by the template 'for every input the law returns true; each argument reads behind the call as it read before'; 0 by the template 'total and deterministic' (their statements: YtgkpganbepbjnaaTotals.lean).
  GIVEN WITH THE SEED: the statements are not yours to turn. If you find one false, say at which input.
  Laid BY PROGRAM, IN A SANDBOX (cutbox-rows.mjs): the forced cells as the released guide's own fill.sh prints them over the translation 5b743faecf6bef98… (all of the seat's roots in one cut). By AI agents, Wed Nov 11 2026. No macro, syntax, notation, axiom, sorry.
-/
import Derived.Test.YtgkpganbepbjnaaChecked
import GoSem.Claim
import GoSem.ClaimJoined
import GoSem.ClaimMapViews
import Derived.JoinedTies
import Derived.KernelRfl
namespace Go.Proofs.Ytgkpganbepbjnaa
/- THE CELL 'sum', in the pinned program and in every row, IS THE sha256 OF THE DUMP (.gsa) THAT YtgkpganbepbjnaaProg.lean LOADS. Nothing in Lean hashes anything: it is a label: what it is worth is what the hold of that sum in a sandbox is worth. -/
noncomputable def Try.pinned : Pinned := { name := "ytgkpganbepbjnaa", sum := "5b743faecf6bef98d741aeaaeaf64b7e4f3b116675f937fdf274ee0610a5ff7d", checked := Try.checked }
namespace Rows
def none {H : Type} : Left H := { results := [], args := [] }

/-- 'laws.FnExactWeightFor': WHATEVER THE INPUT: true; the input reads as it did. -/
def fnExactWeightForSpec : ChangeSpec := { name := "fnExactWeightFor", fn := fun _ => fun
  | [d1, d2] => { results := [.lit (.bool true)], args := [d1, d2] }
  | _ => none }
def fnExactWeightForRow : OpenClaim := { program := "ytgkpganbepbjnaa", sum := "5b743faecf6bef98d741aeaaeaf64b7e4f3b116675f937fdf274ee0610a5ff7d", func := "loop.example/g00921/laws.FnExactWeightFor", spec := "fnExactWeightFor", apart := false }
def FnExactWeightForSaid : Prop := fnExactWeightForRow.holds Try.pinned (OpenSpec.ofChange fnExactWeightForSpec)

/-- ITS FALSE NEIGHBOUR: 'it returns false'. Refute it at one input. -/
def fnExactWeightForWrong : ChangeSpec := { name := "fnExactWeightFor", fn := fun _ => fun
  | [d1, d2] => { results := [.lit (.bool false)], args := [d1, d2] }
  | _ => none }
def FnExactWeightForWrongFalsely : Prop := fnExactWeightForRow.holds Try.pinned (OpenSpec.ofChange fnExactWeightForWrong)

/-- 'laws.FnExactDaysOf': WHATEVER THE INPUT: true; the input reads as it did. -/
def fnExactDaysOfSpec : ChangeSpec := { name := "fnExactDaysOf", fn := fun _ => fun
  | [d1, d2] => { results := [.lit (.bool true)], args := [d1, d2] }
  | _ => none }
def fnExactDaysOfRow : OpenClaim := { program := "ytgkpganbepbjnaa", sum := "5b743faecf6bef98d741aeaaeaf64b7e4f3b116675f937fdf274ee0610a5ff7d", func := "loop.example/g00921/laws.FnExactDaysOf", spec := "fnExactDaysOf", apart := false }
def FnExactDaysOfSaid : Prop := fnExactDaysOfRow.holds Try.pinned (OpenSpec.ofChange fnExactDaysOfSpec)

/-- ITS FALSE NEIGHBOUR: 'it returns false'. Refute it at one input. -/
def fnExactDaysOfWrong : ChangeSpec := { name := "fnExactDaysOf", fn := fun _ => fun
  | [d1, d2] => { results := [.lit (.bool false)], args := [d1, d2] }
  | _ => none }
def FnExactDaysOfWrongFalsely : Prop := fnExactDaysOfRow.holds Try.pinned (OpenSpec.ofChange fnExactDaysOfWrong)

/-- 'laws.FnExactValidSpring': WHATEVER THE INPUT: true; the input reads as it did. -/
def fnExactValidSpringSpec : ChangeSpec := { name := "fnExactValidSpring", fn := fun _ => fun
  | [d] => { results := [.lit (.bool true)], args := [d] }
  | _ => none }
def fnExactValidSpringRow : OpenClaim := { program := "ytgkpganbepbjnaa", sum := "5b743faecf6bef98d741aeaaeaf64b7e4f3b116675f937fdf274ee0610a5ff7d", func := "loop.example/g00921/laws.FnExactValidSpring", spec := "fnExactValidSpring", apart := false }
def FnExactValidSpringSaid : Prop := fnExactValidSpringRow.holds Try.pinned (OpenSpec.ofChange fnExactValidSpringSpec)

/-- ITS FALSE NEIGHBOUR: 'it returns false'. Refute it at one input. -/
def fnExactValidSpringWrong : ChangeSpec := { name := "fnExactValidSpring", fn := fun _ => fun
  | [d] => { results := [.lit (.bool false)], args := [d] }
  | _ => none }
def FnExactValidSpringWrongFalsely : Prop := fnExactValidSpringRow.holds Try.pinned (OpenSpec.ofChange fnExactValidSpringWrong)

/-- 'laws.FnExactLeastPull': WHATEVER THE INPUT: true; the input reads as it did. -/
def fnExactLeastPullSpec : ChangeSpec := { name := "fnExactLeastPull", fn := fun _ => fun
  | [d1, d2, d3] => { results := [.lit (.bool true)], args := [d1, d2, d3] }
  | _ => none }
def fnExactLeastPullRow : OpenClaim := { program := "ytgkpganbepbjnaa", sum := "5b743faecf6bef98d741aeaaeaf64b7e4f3b116675f937fdf274ee0610a5ff7d", func := "loop.example/g00921/laws.FnExactLeastPull", spec := "fnExactLeastPull", unfollowed := true, recurses := true, apart := false }
def FnExactLeastPullSaid : Prop := fnExactLeastPullRow.holds Try.pinned (OpenSpec.ofChange fnExactLeastPullSpec)

/-- ITS FALSE NEIGHBOUR: 'it returns false'. Refute it at one input. -/
def fnExactLeastPullWrong : ChangeSpec := { name := "fnExactLeastPull", fn := fun _ => fun
  | [d1, d2, d3] => { results := [.lit (.bool false)], args := [d1, d2, d3] }
  | _ => none }
def FnExactLeastPullWrongFalsely : Prop := fnExactLeastPullRow.holds Try.pinned (OpenSpec.ofChange fnExactLeastPullWrong)

/-- 'laws.FnExactPullAlong': WHATEVER THE INPUT: true; the input reads as it did. -/
def fnExactPullAlongSpec : ChangeSpec := { name := "fnExactPullAlong", fn := fun _ => fun
  | [d1, d2, d3] => { results := [.lit (.bool true)], args := [d1, d2, d3] }
  | _ => none }
def fnExactPullAlongRow : OpenClaim := { program := "ytgkpganbepbjnaa", sum := "5b743faecf6bef98d741aeaaeaf64b7e4f3b116675f937fdf274ee0610a5ff7d", func := "loop.example/g00921/laws.FnExactPullAlong", spec := "fnExactPullAlong", apart := false }
def FnExactPullAlongSaid : Prop := fnExactPullAlongRow.holds Try.pinned (OpenSpec.ofChange fnExactPullAlongSpec)

/-- ITS FALSE NEIGHBOUR: 'it returns false'. Refute it at one input. -/
def fnExactPullAlongWrong : ChangeSpec := { name := "fnExactPullAlong", fn := fun _ => fun
  | [d1, d2, d3] => { results := [.lit (.bool false)], args := [d1, d2, d3] }
  | _ => none }
def FnExactPullAlongWrongFalsely : Prop := fnExactPullAlongRow.holds Try.pinned (OpenSpec.ofChange fnExactPullAlongWrong)

/-- 'laws.FnExactPullAt': WHATEVER THE INPUT: true; the input reads as it did. -/
def fnExactPullAtSpec : ChangeSpec := { name := "fnExactPullAt", fn := fun _ => fun
  | [d1, d2] => { results := [.lit (.bool true)], args := [d1, d2] }
  | _ => none }
def fnExactPullAtRow : OpenClaim := { program := "ytgkpganbepbjnaa", sum := "5b743faecf6bef98d741aeaaeaf64b7e4f3b116675f937fdf274ee0610a5ff7d", func := "loop.example/g00921/laws.FnExactPullAt", spec := "fnExactPullAt", apart := false }
def FnExactPullAtSaid : Prop := fnExactPullAtRow.holds Try.pinned (OpenSpec.ofChange fnExactPullAtSpec)

/-- ITS FALSE NEIGHBOUR: 'it returns false'. Refute it at one input. -/
def fnExactPullAtWrong : ChangeSpec := { name := "fnExactPullAt", fn := fun _ => fun
  | [d1, d2] => { results := [.lit (.bool false)], args := [d1, d2] }
  | _ => none }
def FnExactPullAtWrongFalsely : Prop := fnExactPullAtRow.holds Try.pinned (OpenSpec.ofChange fnExactPullAtWrong)

/-- 'laws.FnExactEnergyBetween': WHATEVER THE INPUT: true; the input reads as it did. -/
def fnExactEnergyBetweenSpec : ChangeSpec := { name := "fnExactEnergyBetween", fn := fun _ => fun
  | [d1, d2, d3] => { results := [.lit (.bool true)], args := [d1, d2, d3] }
  | _ => none }
def fnExactEnergyBetweenRow : OpenClaim := { program := "ytgkpganbepbjnaa", sum := "5b743faecf6bef98d741aeaaeaf64b7e4f3b116675f937fdf274ee0610a5ff7d", func := "loop.example/g00921/laws.FnExactEnergyBetween", spec := "fnExactEnergyBetween", apart := false }
def FnExactEnergyBetweenSaid : Prop := fnExactEnergyBetweenRow.holds Try.pinned (OpenSpec.ofChange fnExactEnergyBetweenSpec)

/-- ITS FALSE NEIGHBOUR: 'it returns false'. Refute it at one input. -/
def fnExactEnergyBetweenWrong : ChangeSpec := { name := "fnExactEnergyBetween", fn := fun _ => fun
  | [d1, d2, d3] => { results := [.lit (.bool false)], args := [d1, d2, d3] }
  | _ => none }
def FnExactEnergyBetweenWrongFalsely : Prop := fnExactEnergyBetweenRow.holds Try.pinned (OpenSpec.ofChange fnExactEnergyBetweenWrong)

/-- 'laws.FnExactBestStopwork': WHATEVER THE INPUT: true; the input reads as it did. -/
def fnExactBestStopworkSpec : ChangeSpec := { name := "fnExactBestStopwork", fn := fun _ => fun
  | [d1, d2] => { results := [.lit (.bool true)], args := [d1, d2] }
  | _ => none }
def fnExactBestStopworkRow : OpenClaim := { program := "ytgkpganbepbjnaa", sum := "5b743faecf6bef98d741aeaaeaf64b7e4f3b116675f937fdf274ee0610a5ff7d", func := "loop.example/g00921/laws.FnExactBestStopwork", spec := "fnExactBestStopwork", apart := false }
def FnExactBestStopworkSaid : Prop := fnExactBestStopworkRow.holds Try.pinned (OpenSpec.ofChange fnExactBestStopworkSpec)

/-- ITS FALSE NEIGHBOUR: 'it returns false'. Refute it at one input. -/
def fnExactBestStopworkWrong : ChangeSpec := { name := "fnExactBestStopwork", fn := fun _ => fun
  | [d1, d2] => { results := [.lit (.bool false)], args := [d1, d2] }
  | _ => none }
def FnExactBestStopworkWrongFalsely : Prop := fnExactBestStopworkRow.holds Try.pinned (OpenSpec.ofChange fnExactBestStopworkWrong)

/-- 'laws.FnExactRunningTime': WHATEVER THE INPUT: true; the input reads as it did. -/
def fnExactRunningTimeSpec : ChangeSpec := { name := "fnExactRunningTime", fn := fun _ => fun
  | [d1, d2, d3] => { results := [.lit (.bool true)], args := [d1, d2, d3] }
  | _ => none }
def fnExactRunningTimeRow : OpenClaim := { program := "ytgkpganbepbjnaa", sum := "5b743faecf6bef98d741aeaaeaf64b7e4f3b116675f937fdf274ee0610a5ff7d", func := "loop.example/g00921/laws.FnExactRunningTime", spec := "fnExactRunningTime", apart := false }
def FnExactRunningTimeSaid : Prop := fnExactRunningTimeRow.holds Try.pinned (OpenSpec.ofChange fnExactRunningTimeSpec)

/-- ITS FALSE NEIGHBOUR: 'it returns false'. Refute it at one input. -/
def fnExactRunningTimeWrong : ChangeSpec := { name := "fnExactRunningTime", fn := fun _ => fun
  | [d1, d2, d3] => { results := [.lit (.bool false)], args := [d1, d2, d3] }
  | _ => none }
def FnExactRunningTimeWrongFalsely : Prop := fnExactRunningTimeRow.holds Try.pinned (OpenSpec.ofChange fnExactRunningTimeWrong)

/-- 'laws.FnExactClashes': WHATEVER THE INPUT: true; the input reads as it did. -/
def fnExactClashesSpec : ChangeSpec := { name := "fnExactClashes", fn := fun _ => fun
  | [d] => { results := [.lit (.bool true)], args := [d] }
  | _ => none }
def fnExactClashesRow : OpenClaim := { program := "ytgkpganbepbjnaa", sum := "5b743faecf6bef98d741aeaaeaf64b7e4f3b116675f937fdf274ee0610a5ff7d", func := "loop.example/g00921/laws.FnExactClashes", spec := "fnExactClashes", unfollowed := true, recurses := true, apart := false }
def FnExactClashesSaid : Prop := fnExactClashesRow.holds Try.pinned (OpenSpec.ofChange fnExactClashesSpec)

/-- ITS FALSE NEIGHBOUR: 'it returns false'. Refute it at one input. -/
def fnExactClashesWrong : ChangeSpec := { name := "fnExactClashes", fn := fun _ => fun
  | [d] => { results := [.lit (.bool false)], args := [d] }
  | _ => none }
def FnExactClashesWrongFalsely : Prop := fnExactClashesRow.holds Try.pinned (OpenSpec.ofChange fnExactClashesWrong)

/-- 'laws.FnExactHullOf': WHATEVER THE INPUT: true; the input reads as it did. -/
def fnExactHullOfSpec : ChangeSpec := { name := "fnExactHullOf", fn := fun _ => fun
  | [d] => { results := [.lit (.bool true)], args := [d] }
  | _ => none }
def fnExactHullOfRow : OpenClaim := { program := "ytgkpganbepbjnaa", sum := "5b743faecf6bef98d741aeaaeaf64b7e4f3b116675f937fdf274ee0610a5ff7d", func := "loop.example/g00921/laws.FnExactHullOf", spec := "fnExactHullOf", unfollowed := true, recurses := true, apart := false }
def FnExactHullOfSaid : Prop := fnExactHullOfRow.holds Try.pinned (OpenSpec.ofChange fnExactHullOfSpec)

/-- ITS FALSE NEIGHBOUR: 'it returns false'. Refute it at one input. -/
def fnExactHullOfWrong : ChangeSpec := { name := "fnExactHullOf", fn := fun _ => fun
  | [d] => { results := [.lit (.bool false)], args := [d] }
  | _ => none }
def FnExactHullOfWrongFalsely : Prop := fnExactHullOfRow.holds Try.pinned (OpenSpec.ofChange fnExactHullOfWrong)

/- THE SECOND FORM. 'bulk': how many values and letters a reading holds, each counted each time it is reached (what is shared counts as often as it is met; a slice's spare places count too). A statement '..UptoSaid' is the law's where the arguments, and the package variables that the reading takes, are together of bulk at most 1048576: NARROWER than '..Said'. Prove '..Said' where nothing that the law and all that it calls make is longer than what came in: it says more and counts as full. Else prove '..UptoSaid'. A law counts once. -/
mutual
def uptoBulk {H : Type} : DataW H → Nat
  | .lit (.string bytes) => bytes.length + 1
  | .lit _ => 1
  | .nil => 1
  | .ptr d => uptoBulk d + 1
  | .slice elems spare => uptoBulkAll elems + uptoBulkAll spare + 1
  | .agg parts => uptoBulkAll parts + 1
  | .iface _ d => uptoBulk d + 1
  | .map entries => uptoBulkEntries entries + 1
  | .held _ => 1
def uptoBulkAll {H : Type} : List (DataW H) → Nat
  | [] => 0
  | d :: r => uptoBulk d + uptoBulkAll r
def uptoBulkEntries {H : Type} : List (Lit × DataW H) → Nat
  | [] => 0
  | x :: r => uptoBulkEntry x + uptoBulkEntries r
def uptoBulkEntry {H : Type} : Lit × DataW H → Nat
  | (.string bytes, d) => bytes.length + uptoBulk d + 1
  | (_, d) => uptoBulk d + 1
 end
def uptoSmall : (H : Type) → List (DataW H) → Bool := fun _ ds => decide (uptoBulkAll ds ≤ 1048576)
def OpenSpec.upto (s : _root_.Go.ChangeSpec) : _root_.Go.OpenSpec := { _root_.Go.OpenSpec.ofChange s with cond := some uptoSmall }

/-- 'laws.FnExactWeightFor', WHERE WHAT IT READS IS OF BULK AT MOST 1048576: true; the input reads as it did. -/
def fnExactWeightForUptoRow : OpenClaim := { program := "ytgkpganbepbjnaa", sum := "5b743faecf6bef98d741aeaaeaf64b7e4f3b116675f937fdf274ee0610a5ff7d", func := "loop.example/g00921/laws.FnExactWeightFor", spec := "fnExactWeightFor", apart := false, narrowed := true }
def FnExactWeightForUptoSaid : Prop := fnExactWeightForUptoRow.holds Try.pinned (OpenSpec.upto fnExactWeightForSpec)

/-- 'laws.FnExactDaysOf', WHERE WHAT IT READS IS OF BULK AT MOST 1048576: true; the input reads as it did. -/
def fnExactDaysOfUptoRow : OpenClaim := { program := "ytgkpganbepbjnaa", sum := "5b743faecf6bef98d741aeaaeaf64b7e4f3b116675f937fdf274ee0610a5ff7d", func := "loop.example/g00921/laws.FnExactDaysOf", spec := "fnExactDaysOf", apart := false, narrowed := true }
def FnExactDaysOfUptoSaid : Prop := fnExactDaysOfUptoRow.holds Try.pinned (OpenSpec.upto fnExactDaysOfSpec)

/-- 'laws.FnExactValidSpring', WHERE WHAT IT READS IS OF BULK AT MOST 1048576: true; the input reads as it did. -/
def fnExactValidSpringUptoRow : OpenClaim := { program := "ytgkpganbepbjnaa", sum := "5b743faecf6bef98d741aeaaeaf64b7e4f3b116675f937fdf274ee0610a5ff7d", func := "loop.example/g00921/laws.FnExactValidSpring", spec := "fnExactValidSpring", apart := false, narrowed := true }
def FnExactValidSpringUptoSaid : Prop := fnExactValidSpringUptoRow.holds Try.pinned (OpenSpec.upto fnExactValidSpringSpec)

/-- 'laws.FnExactLeastPull', WHERE WHAT IT READS IS OF BULK AT MOST 1048576: true; the input reads as it did. -/
def fnExactLeastPullUptoRow : OpenClaim := { program := "ytgkpganbepbjnaa", sum := "5b743faecf6bef98d741aeaaeaf64b7e4f3b116675f937fdf274ee0610a5ff7d", func := "loop.example/g00921/laws.FnExactLeastPull", spec := "fnExactLeastPull", unfollowed := true, recurses := true, apart := false, narrowed := true }
def FnExactLeastPullUptoSaid : Prop := fnExactLeastPullUptoRow.holds Try.pinned (OpenSpec.upto fnExactLeastPullSpec)

/-- 'laws.FnExactPullAlong', WHERE WHAT IT READS IS OF BULK AT MOST 1048576: true; the input reads as it did. -/
def fnExactPullAlongUptoRow : OpenClaim := { program := "ytgkpganbepbjnaa", sum := "5b743faecf6bef98d741aeaaeaf64b7e4f3b116675f937fdf274ee0610a5ff7d", func := "loop.example/g00921/laws.FnExactPullAlong", spec := "fnExactPullAlong", apart := false, narrowed := true }
def FnExactPullAlongUptoSaid : Prop := fnExactPullAlongUptoRow.holds Try.pinned (OpenSpec.upto fnExactPullAlongSpec)

/-- 'laws.FnExactPullAt', WHERE WHAT IT READS IS OF BULK AT MOST 1048576: true; the input reads as it did. -/
def fnExactPullAtUptoRow : OpenClaim := { program := "ytgkpganbepbjnaa", sum := "5b743faecf6bef98d741aeaaeaf64b7e4f3b116675f937fdf274ee0610a5ff7d", func := "loop.example/g00921/laws.FnExactPullAt", spec := "fnExactPullAt", apart := false, narrowed := true }
def FnExactPullAtUptoSaid : Prop := fnExactPullAtUptoRow.holds Try.pinned (OpenSpec.upto fnExactPullAtSpec)

/-- 'laws.FnExactEnergyBetween', WHERE WHAT IT READS IS OF BULK AT MOST 1048576: true; the input reads as it did. -/
def fnExactEnergyBetweenUptoRow : OpenClaim := { program := "ytgkpganbepbjnaa", sum := "5b743faecf6bef98d741aeaaeaf64b7e4f3b116675f937fdf274ee0610a5ff7d", func := "loop.example/g00921/laws.FnExactEnergyBetween", spec := "fnExactEnergyBetween", apart := false, narrowed := true }
def FnExactEnergyBetweenUptoSaid : Prop := fnExactEnergyBetweenUptoRow.holds Try.pinned (OpenSpec.upto fnExactEnergyBetweenSpec)

/-- 'laws.FnExactBestStopwork', WHERE WHAT IT READS IS OF BULK AT MOST 1048576: true; the input reads as it did. -/
def fnExactBestStopworkUptoRow : OpenClaim := { program := "ytgkpganbepbjnaa", sum := "5b743faecf6bef98d741aeaaeaf64b7e4f3b116675f937fdf274ee0610a5ff7d", func := "loop.example/g00921/laws.FnExactBestStopwork", spec := "fnExactBestStopwork", apart := false, narrowed := true }
def FnExactBestStopworkUptoSaid : Prop := fnExactBestStopworkUptoRow.holds Try.pinned (OpenSpec.upto fnExactBestStopworkSpec)

/-- 'laws.FnExactRunningTime', WHERE WHAT IT READS IS OF BULK AT MOST 1048576: true; the input reads as it did. -/
def fnExactRunningTimeUptoRow : OpenClaim := { program := "ytgkpganbepbjnaa", sum := "5b743faecf6bef98d741aeaaeaf64b7e4f3b116675f937fdf274ee0610a5ff7d", func := "loop.example/g00921/laws.FnExactRunningTime", spec := "fnExactRunningTime", apart := false, narrowed := true }
def FnExactRunningTimeUptoSaid : Prop := fnExactRunningTimeUptoRow.holds Try.pinned (OpenSpec.upto fnExactRunningTimeSpec)

/-- 'laws.FnExactClashes', WHERE WHAT IT READS IS OF BULK AT MOST 1048576: true; the input reads as it did. -/
def fnExactClashesUptoRow : OpenClaim := { program := "ytgkpganbepbjnaa", sum := "5b743faecf6bef98d741aeaaeaf64b7e4f3b116675f937fdf274ee0610a5ff7d", func := "loop.example/g00921/laws.FnExactClashes", spec := "fnExactClashes", unfollowed := true, recurses := true, apart := false, narrowed := true }
def FnExactClashesUptoSaid : Prop := fnExactClashesUptoRow.holds Try.pinned (OpenSpec.upto fnExactClashesSpec)

/-- 'laws.FnExactHullOf', WHERE WHAT IT READS IS OF BULK AT MOST 1048576: true; the input reads as it did. -/
def fnExactHullOfUptoRow : OpenClaim := { program := "ytgkpganbepbjnaa", sum := "5b743faecf6bef98d741aeaaeaf64b7e4f3b116675f937fdf274ee0610a5ff7d", func := "loop.example/g00921/laws.FnExactHullOf", spec := "fnExactHullOf", unfollowed := true, recurses := true, apart := false, narrowed := true }
def FnExactHullOfUptoSaid : Prop := fnExactHullOfUptoRow.holds Try.pinned (OpenSpec.upto fnExactHullOfSpec)

end Rows
end Go.Proofs.Ytgkpganbepbjnaa
